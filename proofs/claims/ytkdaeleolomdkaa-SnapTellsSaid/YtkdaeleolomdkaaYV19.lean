import Derived.Test.YtkdaeleolomdkaaYV0
import Derived.Test.YtkdaeleolomdkaaYV17
namespace Go.Proofs.Ytkdaeleolomdkaa.V
open Go.Proofs.YtkdaeleolomdkaaW.PrintWords renaming pw_below_drewN → a', blk_drewN → b', blk_alloc → c', blk_frozen → d', blk_drew → e', below_drew1 → f', below_alloc → g', below_set → h', blk_cell → j', below_size → l'
open Go.Proofs.YtkdaeleolomdkaaW.PrintWords.Kd renaming R_far → k'
open Go.Proofs.YtkdaeleolomdkaaW.PrintWords.Aside0 renaming mk → m'
open Go.RowKit Go.Proofs.YtkdaeleolomdkaaW.PrintWords Go.Proofs.YtkdaeleolomdkaaW.PrintLast Go.Proofs.YtkdaeleolomdkaaW.PrintMore
attribute [local go_sem] max2_int min2_int max_two min_two max_three min_three max_four min_four   -- for this text's walks alone
set_option linter.unusedVariables false
set_option linter.unusedSimpArgs false
def fanlightref07_Newest.j0 : Nat → Int → Int → Bool → Int → Int → List Int → Int → Int → List Int → Option (Int × Int × List Int × Int × Int)
  | 0, _, _, _, _, _, _, _, _, _ => none
  | k + 1, x8, x10, x21, x255000, x255001, x255002, x262000, x262001, x262002 => if x21 = true then (some (0, 0, ([] : List Int), 0, 71)) else (if x8 = 0 then (if x10 = 0 then (if x262000 > x255000 then (some (x262000, x262001, x262002, 1, 0)) else (some (x255000, x255001, x255002, 0, 0))) else (some (x255000, x255001, x255002, 0, 0))) else (some (x262000, x262001, x262002, 1, 0)))
def fanlightref07_Newest.f (k : Nat) (l0 : List Int) (l1 : List Int) : Option (Int × Int × List Int × Int × Int) := (fanlightref07_Decode.f k l0).bind fun bt248 => ((fanlightref07_Decode.f k l1).bind fun bt255 => (if bt248.2.2.2 = 0 then (fanlightref07_Newest.j0 k bt248.2.2.2 bt255.2.2.2 false bt248.1 bt248.2.1 bt248.2.2.1 bt255.1 bt255.2.1 bt255.2.2.1) else (fanlightref07_Newest.j0 k bt248.2.2.2 bt255.2.2.2 (bt255.2.2.2 != 0) bt248.1 bt248.2.1 bt248.2.2.1 bt255.1 bt255.2.1 bt255.2.2.1)))
theorem fanlightref07_Newest.mono_l : ∀ k, (∀ y0 y1 y2 y3 y4 y5 y6 y7 y8, LeO (fanlightref07_Newest.j0 k y0 y1 y2 y3 y4 y5 y6 y7 y8) (fanlightref07_Newest.j0 (k + 1) y0 y1 y2 y3 y4 y5 y6 y7 y8))
  | 0 => fun _ _ _ _ _ _ _ _ _ r h => by simp [fanlightref07_Newest.j0] at h
  | k + 1 => by
    have ih0 := fanlightref07_Newest.mono_l k
    · intro y0 y1 y2 y3 y4 y5 y6 y7 y8
      unfold fanlightref07_Newest.j0
      repeat' first
      | (with_reducible exact ih0 _ _ _ _ _ _ _ _ _)
      | (with_reducible exact fanlightref07_Decode.mono _ _)
      | (with_reducible exact LeO.refl _)
      | (with_reducible exact LeO.none _)
      | (with_reducible refine LeO.ite ?_ ?_)
      | (with_reducible refine LeO.bind ?_ (fun _ => ?_))
      | exact ih0 _ _ _ _ _ _ _ _ _
      | exact fanlightref07_Decode.mono _ _
      | exact LeO.none _
      | refine LeO.ite ?_ ?_
      | refine LeO.bind ?_ (fun _ => ?_)
theorem fanlightref07_Newest.mono : ∀ a0 a1 k, LeO (fanlightref07_Newest.f k a0 a1) (fanlightref07_Newest.f (k + 1) a0 a1) := by
  intro a0 a1 k
  have ih0 := fanlightref07_Newest.mono_l k
  unfold fanlightref07_Newest.f
  repeat' first
      | (with_reducible exact ih0 _ _ _ _ _ _ _ _ _)
      | (with_reducible exact fanlightref07_Decode.mono _ _)
      | (with_reducible exact LeO.refl _)
      | (with_reducible exact LeO.none _)
      | (with_reducible refine LeO.ite ?_ ?_)
      | (with_reducible refine LeO.bind ?_ (fun _ => ?_))
      | exact ih0 _ _ _ _ _ _ _ _ _
      | exact fanlightref07_Decode.mono _ _
      | exact LeO.none _
      | refine LeO.ite ?_ ?_
      | refine LeO.bind ?_ (fun _ => ?_)
set_option maxHeartbeats 8000000 in
set_option maxRecDepth 100000 in
theorem fanlightref07_Newest.calls (k : Nat) (A0 : Option Addr) (c0 : Nat) (l0 : List Int) (A1 : Option Addr) (c1 : Nat) (l1 : List Int) (r1 : Int) (r2 : Int) (r3 : List Int) (r4 : Int) (r5 : Int) (w : World) (hr0 : Kd.C (Kd.int .u8) w A0 l0.length l0) (hc0 : l0.length ≤ c0) (hr1 : Kd.C (Kd.int .u8) w A1 l1.length l1) (hc1 : l1.length ≤ c1) (h : fanlightref07_Newest.f k l0 l1 = some (r1, r2, r3, r4, r5)) :
    Calls Try.prog 20 #[.slice A0 l0.length c0, .slice A1 l1.length c1] w fun e w' => ∃ v2_ : Value, e = .returned (.tuple #[.agg #[.int .i64 r1, .int .i64 r2, v2_], .int .i64 r4, .int .i64 r5]) ∧ Kd.R (Kd.int .u8) 5 w' w.heap.size (fun _ => True) v2_ r3 ∧ Below w.heap.size w w' := by
  have hu24 := Try.underlying24
  have HR0 := m' hr0
  have HC0 := m' hc0
  clear hr0 hc0
  have HR1 := m' hr1
  have HC1 := m' hc1
  clear hr1 hc1
  have HB := m' (Below.refl w.heap.size w)
  have H : ((fanlightref07_Decode.f k l0).bind fun bt248 => ((fanlightref07_Decode.f k l1).bind fun bt255 => (if bt248.2.2.2 = 0 then (fanlightref07_Newest.j0 k bt248.2.2.2 bt255.2.2.2 false bt248.1 bt248.2.1 bt248.2.2.1 bt255.1 bt255.2.1 bt255.2.2.1) else (fanlightref07_Newest.j0 k bt248.2.2.2 bt255.2.2.2 (bt255.2.2.2 != 0) bt248.1 bt248.2.1 bt248.2.2.1 bt255.1 bt255.2.1 bt255.2.2.1)))) = some (r1, r2, r3, r4, r5) := h
  clear h
  replace H := Option.bind_eq_some_iff.mp H
  obtain ⟨⟨t248, t249, t250, t253⟩, A30, H⟩ := H
  replace H : ((fanlightref07_Decode.f k l1).bind fun bt255 => (if t253 = 0 then (fanlightref07_Newest.j0 k t253 bt255.2.2.2 false t248 t249 t250 bt255.1 bt255.2.1 bt255.2.2.1) else (fanlightref07_Newest.j0 k t253 bt255.2.2.2 (bt255.2.2.2 != 0) t248 t249 t250 bt255.1 bt255.2.1 bt255.2.2.1))) = some (r1, r2, r3, r4, r5) := H
  have A3 := m' A30
  clear A30
  replace H := Option.bind_eq_some_iff.mp H
  obtain ⟨⟨t255, t256, t257, t260⟩, A40, H⟩ := H
  replace H : (if t253 = 0 then (fanlightref07_Newest.j0 k t253 t260 false t248 t249 t250 t255 t256 t257) else (fanlightref07_Newest.j0 k t253 t260 (t260 != 0) t248 t249 t250 t255 t256 t257)) = some (r1, r2, r3, r4, r5) := H
  have A4 := m' A40
  clear A40
  have HC5 := m' H
  clear H
  go_enter Try.func20, Try.ntmps20
  go_upto_region 3 with (first | ((with_reducible refine gate_dst (N := 4) rfl ?_); refine box_event ?hg (N := 4) ?hd (cs := #[.int .i64 0, .int .i64 0, .slice none 0 0]) (t := 24) ?hr ?_; (case hd => rfl); (case hg => rfl); (case hr => first | (go_simp; done) | (go_simp; rfl)); intro gb247 hg w6 hbox hb; have n0_ := m' (below_step (by repeat (first | (with_reducible first | exact HB.out | apply g' | apply a' | apply f') | exact HB.out)) hb); have n1_ := m' (hbox); have n2_ := m' ((by rw [hg]; exact (l' (by repeat (first | (with_reducible first | exact HB.out | apply g' | apply a' | apply f') | exact HB.out))) : w.heap.size ≤ gb247)); have n3_ := m' ((by rw [hg]; exact (l' (by repeat (first | (with_reducible first | exact HB.out | apply g' | apply a' | apply f') | exact HB.out))) : w.heap.size ≤ gb247)); clear HB; have HB := n0_; have BK247 := n1_; have GW247 := n2_; have GE247 := n3_; clear n0_ n1_ n2_ n3_; clear hb hbox hg) | ((with_reducible refine gate_callee (f := 18) rfl ?_); refine goesL_ (some 13) rfl rfl Try.func18 (by kernel_rfl) rfl #[.slice A0 l0.length c0] rfl (by (try simp only [List.map_toArray, List.map_cons, List.map_nil]); first | done | rfl | (simp only [List.length_drop, List.length_take]; rfl)) ?_; (with_reducible refine (fanlightref07_Decode.calls k _ _ l0 t248 t249 t250 t253 _ ?side1 ?side2 A3.out).mono ?_); (case side1 => repeat (first | exact (Kd.C_below HR0.out HB.out) | (with_reducible refine Kd.C_alloc ?_ _) | (with_reducible refine Kd.C_drewN ?_ _) | (with_reducible refine Kd.C_drew ?_))); (case side2 => exact HC0.out); rintro e w7 ⟨v251, rfl, ho0, hb⟩; refine ⟨_, rfl, ?_⟩; have n0_ := m' (Kd.R_lower ho0 (l' (by repeat (first | (with_reducible first | exact HB.out | apply g' | apply a' | apply f' | refine h' ?_ GE247.out) | exact HB.out)))); have n1_ := m' (blk_below (g := gb247) (o := .cells #[.int .i64 0, .int .i64 0, .slice none 0 0] 24 (0, 0)) (by (with_reducible repeat (first | apply b' | apply e' | apply c')); exact BK247.out) hb); have n2_ := m' (below_step (by repeat (first | (with_reducible first | exact HB.out | apply g' | apply a' | apply f' | refine h' ?_ GE247.out) | exact HB.out)) hb); clear BK247; clear HB; have HO252 := n0_; have BK247 := n1_; have HB := n2_; clear n0_ n1_ n2_; (try clear hb); (try clear hb2); (try clear hk); (try clear hi); (try clear ho0)) | ((with_reducible refine gate_dst (N := 7) rfl ?_); refine box_event ?hg (N := 7) ?hd (cs := #[.int .i64 0, .int .i64 0, .slice none 0 0]) (t := 24) ?hr ?_; (case hd => rfl); (case hg => rfl); (case hr => first | (go_simp; done) | (go_simp; rfl)); intro gb254 hg w8 hbox hb; have n0_ := m' (Kd.R_below (by (with_reducible repeat (first | apply Kd.R_alloc | apply Kd.R_drewN | apply Kd.R_drew)); exact HO252.out) hb); have n1_ := m' (blk_below (g := gb247) (o := .cells #[.int .i64 0, .int .i64 0, .slice none 0 0] 24 (0, 0)) (by (with_reducible repeat (first | apply b' | apply e' | apply c')); exact BK247.out) hb); have n2_ := m' (below_step (by repeat (first | (with_reducible first | exact HB.out | apply g' | apply a' | apply f' | refine h' ?_ GE247.out) | exact HB.out)) hb); have n3_ := m' (hbox); have n4_ := m' ((by rw [hg]; exact (l' (by repeat (first | (with_reducible first | exact HB.out | apply g' | apply a' | apply f' | refine h' ?_ GE247.out) | exact HB.out))) : w.heap.size ≤ gb254)); have n5_ := m' ((by rw [hg]; exact (l' (by repeat (first | (with_reducible first | exact HB.out | apply g' | apply a' | apply f' | refine h' ?_ GE247.out) | exact HB.out))) : w.heap.size ≤ gb254)); have n6_ := m' ((by rw [hg]; exact Nat.ne_of_lt (blk_lt (g := gb247) (o := .cells #[.int .i64 0, .int .i64 0, .slice none 0 0] 24 (0, 0)) (by (with_reducible repeat (first | apply b' | apply e' | apply c')); exact BK247.out)) : gb247 ≠ gb254)); have n7_ := m' ((by rw [hg]; exact Nat.ne_of_gt (blk_lt (g := gb247) (o := .cells #[.int .i64 0, .int .i64 0, .slice none 0 0] 24 (0, 0)) (by (with_reducible repeat (first | apply b' | apply e' | apply c')); exact BK247.out)) : gb254 ≠ gb247)); clear HO252; clear BK247; clear HB; have HO252 := n0_; have BK247 := n1_; have HB := n2_; have BK254 := n3_; have GW254 := n4_; have GE254 := n5_; have NB247_254 := n6_; have NB254_247 := n7_; clear n0_ n1_ n2_ n3_ n4_ n5_ n6_ n7_; clear hb hbox hg; have hnb9 := NB254_247.out; have hnc9 := NB247_254.out; have hcz10_0 : w8.cell? ⟨gb254, 0, none⟩ = some (.int .i64 0) := (j' BK254.out 0).trans rfl; have hcz10_1 : w8.cell? ⟨gb254, 1, none⟩ = some (.int .i64 0) := (j' BK254.out 1).trans rfl; have hcz10_2 : w8.cell? ⟨gb254, 2, none⟩ = some (.slice none 0 0) := (j' BK254.out 2).trans rfl; have hfz10_0 := d' BK254.out 0; have hfz10_1 := d' BK254.out 1; have hfz10_2 := d' BK254.out 2; obtain ⟨Ao11, co11, eo11⟩ := Kd.R_slice HO252.out; subst eo11) | ((with_reducible refine gate_callee (f := 18) rfl ?_); refine goesL_ (some 18) rfl rfl Try.func18 (by kernel_rfl) rfl #[.slice A1 l1.length c1] rfl (by (try simp only [List.map_toArray, List.map_cons, List.map_nil]); first | done | rfl | (simp only [List.length_drop, List.length_take]; rfl)) ?_; (with_reducible refine (fanlightref07_Decode.calls k _ _ l1 t255 t256 t257 t260 _ ?side1 ?side2 A4.out).mono ?_); (case side1 => exact Kd.C_below HR1.out (by repeat (first | (with_reducible first | exact HB.out | apply g' | apply a' | apply f' | refine h' ?_ GE247.out | refine h' ?_ GE254.out) | exact HB.out))); (case side2 => exact HC1.out); rintro e w12 ⟨v258, rfl, ho0, hb⟩; refine ⟨_, rfl, ?_⟩; have n0_ := m' (Kd.R_elder' (by (with_reducible repeat (first | apply Kd.R_alloc | apply Kd.R_drewN | apply Kd.R_drew)); exact (Kd.R_mono (k' (p := ⟨gb254, 2, none⟩) (k' (p := ⟨gb254, 1, none⟩) (k' (p := ⟨gb254, 0, none⟩) (Kd.R_types HO252.out BK254.out (by decide)) (fun _ hk => hk.2) (.int .i64 t248)) (fun _ hk => hk.2) (.int .i64 t249)) (fun _ hk => hk.2) (.slice Ao11 t250.length co11)) (fun _ h_ => h_.1))) (Kd.R_base ho0) hb); have n1_ := m' (Kd.R_lower (Kd.R_new' ho0 (Kd.R_lt (by (with_reducible repeat (first | apply Kd.R_alloc | apply Kd.R_drewN | apply Kd.R_drew)); exact (Kd.R_mono (k' (p := ⟨gb254, 2, none⟩) (k' (p := ⟨gb254, 1, none⟩) (k' (p := ⟨gb254, 0, none⟩) (Kd.R_types HO252.out BK254.out (by decide)) (fun _ hk => hk.2) (.int .i64 t248)) (fun _ hk => hk.2) (.int .i64 t249)) (fun _ hk => hk.2) (.slice Ao11 t250.length co11)) (fun _ h_ => h_.1))))) (l' (by repeat (first | (with_reducible first | exact HB.out | apply g' | apply a' | apply f' | refine h' ?_ GE247.out | refine h' ?_ GE254.out) | exact HB.out)))); have n2_ := m' (blk_below (g := gb247) (o := .cells #[.int .i64 0, .int .i64 0, .slice none 0 0] 24 (0, 0)) (by (with_reducible repeat (first | apply b' | apply e' | apply c')); refine blk_far ?_ NB247_254.out _; (with_reducible repeat (first | apply b' | apply e' | apply c')); refine blk_far ?_ NB247_254.out _; (with_reducible repeat (first | apply b' | apply e' | apply c')); refine blk_far ?_ NB247_254.out _; (with_reducible repeat (first | apply b' | apply e' | apply c')); exact BK247.out) hb); have n3_ := m' (blk_below (g := gb254) (o := .cells #[.int .i64 t248, .int .i64 t249, .slice Ao11 t250.length co11] 24 (0, 0)) (by (with_reducible repeat (first | apply b' | apply e' | apply c')); refine blk_put (cs := #[.int .i64 t248, .int .i64 t249, .slice none 0 0]) ?_ 2 _ rfl; (with_reducible repeat (first | apply b' | apply e' | apply c')); refine blk_put (cs := #[.int .i64 t248, .int .i64 0, .slice none 0 0]) ?_ 1 _ rfl; (with_reducible repeat (first | apply b' | apply e' | apply c')); refine blk_put (cs := #[.int .i64 0, .int .i64 0, .slice none 0 0]) ?_ 0 _ rfl; (with_reducible repeat (first | apply b' | apply e' | apply c')); exact BK254.out) hb); have n4_ := m' (below_step (by repeat (first | (with_reducible first | exact HB.out | apply g' | apply a' | apply f' | refine h' ?_ GE247.out | refine h' ?_ GE254.out) | exact HB.out)) hb); clear HO252; clear BK247; clear BK254; clear HB; have HO252 := n0_; have HO259 := n1_; have BK247 := n2_; have BK254 := n3_; have HB := n4_; clear n0_ n1_ n2_ n3_ n4_; (try clear hb); (try clear hb2); (try clear hk); (try clear hi); (try clear ho0)) | ((with_reducible refine gate_dst (N := 9) rfl ?_); refine box_event ?hg (N := 9) ?hd (cs := #[.int .i64 0, .int .i64 0, .slice none 0 0]) (t := 24) ?hr ?_; (case hd => rfl); (case hg => rfl); (case hr => first | (go_simp; done) | (go_simp; rfl)); intro gb261 hg w13 hbox hb; have n0_ := m' (Kd.R_below (by (with_reducible repeat (first | apply Kd.R_alloc | apply Kd.R_drewN | apply Kd.R_drew)); exact HO252.out) hb); have n1_ := m' (Kd.R_below (by (with_reducible repeat (first | apply Kd.R_alloc | apply Kd.R_drewN | apply Kd.R_drew)); exact HO259.out) hb); have n2_ := m' (blk_below (g := gb247) (o := .cells #[.int .i64 0, .int .i64 0, .slice none 0 0] 24 (0, 0)) (by (with_reducible repeat (first | apply b' | apply e' | apply c')); exact BK247.out) hb); have n3_ := m' (blk_below (g := gb254) (o := .cells #[.int .i64 t248, .int .i64 t249, .slice Ao11 t250.length co11] 24 (0, 0)) (by (with_reducible repeat (first | apply b' | apply e' | apply c')); exact BK254.out) hb); have n4_ := m' (below_step (by repeat (first | (with_reducible first | exact HB.out | apply g' | apply a' | apply f' | refine h' ?_ GE247.out | refine h' ?_ GE254.out) | exact HB.out)) hb); have n5_ := m' (hbox); have n6_ := m' ((by rw [hg]; exact (l' (by repeat (first | (with_reducible first | exact HB.out | apply g' | apply a' | apply f' | refine h' ?_ GE247.out | refine h' ?_ GE254.out) | exact HB.out))) : w.heap.size ≤ gb261)); have n7_ := m' ((by rw [hg]; exact (l' (by repeat (first | (with_reducible first | exact HB.out | apply g' | apply a' | apply f' | refine h' ?_ GE247.out | refine h' ?_ GE254.out) | exact HB.out))) : w.heap.size ≤ gb261)); have n8_ := m' ((by rw [hg]; exact Nat.ne_of_lt (blk_lt (g := gb247) (o := .cells #[.int .i64 0, .int .i64 0, .slice none 0 0] 24 (0, 0)) (by (with_reducible repeat (first | apply b' | apply e' | apply c')); exact BK247.out)) : gb247 ≠ gb261)); have n9_ := m' ((by rw [hg]; exact Nat.ne_of_gt (blk_lt (g := gb247) (o := .cells #[.int .i64 0, .int .i64 0, .slice none 0 0] 24 (0, 0)) (by (with_reducible repeat (first | apply b' | apply e' | apply c')); exact BK247.out)) : gb261 ≠ gb247)); have n10_ := m' ((by rw [hg]; exact Nat.ne_of_lt (blk_lt (g := gb254) (o := .cells #[.int .i64 t248, .int .i64 t249, .slice Ao11 t250.length co11] 24 (0, 0)) (by (with_reducible repeat (first | apply b' | apply e' | apply c')); exact BK254.out)) : gb254 ≠ gb261)); have n11_ := m' ((by rw [hg]; exact Nat.ne_of_gt (blk_lt (g := gb254) (o := .cells #[.int .i64 t248, .int .i64 t249, .slice Ao11 t250.length co11] 24 (0, 0)) (by (with_reducible repeat (first | apply b' | apply e' | apply c')); exact BK254.out)) : gb261 ≠ gb254)); clear HO252; clear HO259; clear BK247; clear BK254; clear HB; have HO252 := n0_; have HO259 := n1_; have BK247 := n2_; have BK254 := n3_; have HB := n4_; have BK261 := n5_; have GW261 := n6_; have GE261 := n7_; have NB247_261 := n8_; have NB261_247 := n9_; have NB254_261 := n10_; have NB261_254 := n11_; clear n0_ n1_ n2_ n3_ n4_ n5_ n6_ n7_ n8_ n9_ n10_ n11_; clear hb hbox hg; have hnb14 := NB261_247.out; have hnc14 := NB247_261.out; have hnb15 := NB261_254.out; have hnc15 := NB254_261.out; have hcz16_0 : w13.cell? ⟨gb261, 0, none⟩ = some (.int .i64 0) := (j' BK261.out 0).trans rfl; have hcz16_1 : w13.cell? ⟨gb261, 1, none⟩ = some (.int .i64 0) := (j' BK261.out 1).trans rfl; have hcz16_2 : w13.cell? ⟨gb261, 2, none⟩ = some (.slice none 0 0) := (j' BK261.out 2).trans rfl; have hfz16_0 := d' BK261.out 0; have hfz16_1 := d' BK261.out 1; have hfz16_2 := d' BK261.out 2; obtain ⟨Ao17, co17, eo17⟩ := Kd.R_slice HO259.out; subst eo17))
  (try simp only [Act.put, List.setIfInBounds_toArray, List.set_cons_zero, List.set_cons_succ])
  go_cut [21] (fun v21 wc => ∃ (kq : Nat) (x21_4 : Bool), v21 = .bool x21_4 ∧ Aside0 (fanlightref07_Newest.j0 kq t253 t260 x21_4 t248 t249 t250 t255 t256 t257 = some (r1, r2, r3, r4, r5)) ∧ Aside0 (kq ≤ k) ∧ Aside0 (Kd.R (Kd.int .u8) 5 wc w.heap.size (fun k_ => some k_ ≠ ((.slice Ao17 t257.length co17) : Value).ownBlock) (.slice Ao11 t250.length co11) t250) ∧ Aside0 (Kd.R (Kd.int .u8) 5 wc w.heap.size (fun k_ => some k_ ≠ ((.slice Ao11 t250.length co11) : Value).ownBlock) (.slice Ao17 t257.length co17) t257) ∧ Aside0 (wc.heap[gb247]? = some (.cells #[.int .i64 0, .int .i64 0, (.slice none 0 0)] 24 (0, 0))) ∧ Aside0 (wc.heap[gb254]? = some (.cells #[.int .i64 t248, .int .i64 t249, (.slice Ao11 t250.length co11)] 24 (0, 0))) ∧ Aside0 (wc.heap[gb261]? = some (.cells #[.int .i64 t255, .int .i64 t256, (.slice Ao17 t257.length co17)] 24 (0, 0))) ∧ Aside0 (Below w.heap.size w wc))
  case first =>
    have H := HC5.out
    clear HC5
    by_cases c18 : t253 = 0
    · rw [if_pos c18] at H
      have c18b0 : (t253 == 0) = true := beq_iff_eq.mpr c18
      have c18b1 : (t253 != 0) = false := bne_eq_false_iff_eq.mpr c18
      clear c18
      (first | rw [c18b0] | (simp only [i64_w, i32_w]; rw [c18b0]) | rw [c18b1] | skip)
      have H' := m' H
      clear H
      go_wp2
      go_meet
      case rel => exact ⟨_, (false), (by first | rfl | (simp; done) | (simp [*]; done)), H', ⟨by first | omega | exact Nat.le_refl _⟩, ⟨by (with_reducible repeat (first | apply Kd.R_alloc | apply Kd.R_drewN | apply Kd.R_drew)); exact Kd.R_mono (k' (p := ⟨gb261, 2, none⟩) (k' (p := ⟨gb261, 1, none⟩) (k' (p := ⟨gb261, 0, none⟩) (Kd.R_types HO252.out BK261.out (by decide)) (fun _ hk => hk.2) (.int .i64 t255)) (fun _ hk => hk.2) (.int .i64 t256)) (fun _ hk => hk.2) (.slice Ao17 t257.length co17)) (fun _ hk => hk.1.2)⟩, ⟨by (with_reducible repeat (first | apply Kd.R_alloc | apply Kd.R_drewN | apply Kd.R_drew)); exact Kd.R_mono (k' (p := ⟨gb261, 2, none⟩) (k' (p := ⟨gb261, 1, none⟩) (k' (p := ⟨gb261, 0, none⟩) (Kd.R_types HO259.out BK261.out (by decide)) (fun _ hk => hk.2) (.int .i64 t255)) (fun _ hk => hk.2) (.int .i64 t256)) (fun _ hk => hk.2) (.slice Ao17 t257.length co17)) (fun _ hk => hk.1.2)⟩, ⟨by (with_reducible repeat (first | apply b' | apply e' | apply c')); refine blk_far ?_ NB247_261.out _; (with_reducible repeat (first | apply b' | apply e' | apply c')); refine blk_far ?_ NB247_261.out _; (with_reducible repeat (first | apply b' | apply e' | apply c')); refine blk_far ?_ NB247_261.out _; (with_reducible repeat (first | apply b' | apply e' | apply c')); exact BK247.out⟩, ⟨by (with_reducible repeat (first | apply b' | apply e' | apply c')); refine blk_far ?_ NB254_261.out _; (with_reducible repeat (first | apply b' | apply e' | apply c')); refine blk_far ?_ NB254_261.out _; (with_reducible repeat (first | apply b' | apply e' | apply c')); refine blk_far ?_ NB254_261.out _; (with_reducible repeat (first | apply b' | apply e' | apply c')); exact BK254.out⟩, ⟨by (with_reducible repeat (first | apply b' | apply e' | apply c')); refine blk_put (cs := #[.int .i64 t255, .int .i64 t256, .slice none 0 0]) ?_ 2 _ rfl; (with_reducible repeat (first | apply b' | apply e' | apply c')); refine blk_put (cs := #[.int .i64 t255, .int .i64 0, .slice none 0 0]) ?_ 1 _ rfl; (with_reducible repeat (first | apply b' | apply e' | apply c')); refine blk_put (cs := #[.int .i64 0, .int .i64 0, .slice none 0 0]) ?_ 0 _ rfl; (with_reducible repeat (first | apply b' | apply e' | apply c')); exact BK261.out⟩, ⟨by repeat (first | (with_reducible first | exact HB.out | apply g' | apply a' | apply f' | refine h' ?_ GE247.out | refine h' ?_ GE254.out | refine h' ?_ GE261.out) | exact HB.out)⟩⟩
    · rw [if_neg c18] at H
      have c18b0 : (t253 == 0) = false := beq_eq_false_iff_ne.mpr c18
      have c18b1 : (t253 != 0) = true := bne_iff_ne.mpr c18
      (first | rw [c18b0] | (simp only [i64_w, i32_w]; rw [c18b0]) | rw [c18b1] | skip)
      have H' := m' H
      clear H
      go_wp2
      go_meet
      case rel => exact ⟨_, ((t260 != 0)), (by first | rfl | (simp; done) | (simp [*]; done)), H', ⟨by first | omega | exact Nat.le_refl _⟩, ⟨by (with_reducible repeat (first | apply Kd.R_alloc | apply Kd.R_drewN | apply Kd.R_drew)); exact Kd.R_mono (k' (p := ⟨gb261, 2, none⟩) (k' (p := ⟨gb261, 1, none⟩) (k' (p := ⟨gb261, 0, none⟩) (Kd.R_types HO252.out BK261.out (by decide)) (fun _ hk => hk.2) (.int .i64 t255)) (fun _ hk => hk.2) (.int .i64 t256)) (fun _ hk => hk.2) (.slice Ao17 t257.length co17)) (fun _ hk => hk.1.2)⟩, ⟨by (with_reducible repeat (first | apply Kd.R_alloc | apply Kd.R_drewN | apply Kd.R_drew)); exact Kd.R_mono (k' (p := ⟨gb261, 2, none⟩) (k' (p := ⟨gb261, 1, none⟩) (k' (p := ⟨gb261, 0, none⟩) (Kd.R_types HO259.out BK261.out (by decide)) (fun _ hk => hk.2) (.int .i64 t255)) (fun _ hk => hk.2) (.int .i64 t256)) (fun _ hk => hk.2) (.slice Ao17 t257.length co17)) (fun _ hk => hk.1.2)⟩, ⟨by (with_reducible repeat (first | apply b' | apply e' | apply c')); refine blk_far ?_ NB247_261.out _; (with_reducible repeat (first | apply b' | apply e' | apply c')); refine blk_far ?_ NB247_261.out _; (with_reducible repeat (first | apply b' | apply e' | apply c')); refine blk_far ?_ NB247_261.out _; (with_reducible repeat (first | apply b' | apply e' | apply c')); exact BK247.out⟩, ⟨by (with_reducible repeat (first | apply b' | apply e' | apply c')); refine blk_far ?_ NB254_261.out _; (with_reducible repeat (first | apply b' | apply e' | apply c')); refine blk_far ?_ NB254_261.out _; (with_reducible repeat (first | apply b' | apply e' | apply c')); refine blk_far ?_ NB254_261.out _; (with_reducible repeat (first | apply b' | apply e' | apply c')); exact BK254.out⟩, ⟨by (with_reducible repeat (first | apply b' | apply e' | apply c')); refine blk_put (cs := #[.int .i64 t255, .int .i64 t256, .slice none 0 0]) ?_ 2 _ rfl; (with_reducible repeat (first | apply b' | apply e' | apply c')); refine blk_put (cs := #[.int .i64 t255, .int .i64 0, .slice none 0 0]) ?_ 1 _ rfl; (with_reducible repeat (first | apply b' | apply e' | apply c')); refine blk_put (cs := #[.int .i64 0, .int .i64 0, .slice none 0 0]) ?_ 0 _ rfl; (with_reducible repeat (first | apply b' | apply e' | apply c')); exact BK261.out⟩, ⟨by repeat (first | (with_reducible first | exact HB.out | apply g' | apply a' | apply f' | refine h' ?_ GE247.out | refine h' ?_ GE254.out | refine h' ?_ GE261.out) | exact HB.out)⟩⟩
  case rest =>
    clear HC5
    try clear c1
    try clear c2
    try clear p2
    try clear c9
    try clear c14
    try clear c15
    try clear c18
    try clear c18b0
    try clear c18b1
    try clear hcz10_0
    try clear hcz10_1
    try clear hcz10_2
    try clear hcz16_0
    try clear hcz16_1
    try clear hcz16_2
    try clear hfz10_0
    try clear hfz10_1
    try clear hfz10_2
    try clear hfz16_0
    try clear hfz16_1
    try clear hfz16_2
    obtain ⟨kq, x21_4, rfl, HA, HJ4, HO_255002, HO_262002, BK247, BK254, BK261, HB⟩ := hcut
    cases kq with
    | zero => exact absurd HA.out (by simp [fanlightref07_Newest.j0])
    | succ kj4 =>
      have H := HA.out
      clear HA
      simp only [fanlightref07_Newest.j0] at H
      by_cases c19 : x21_4 = true
      · subst c19
        have H1 : (some (0, 0, ([] : List Int), 0, 71)) = some (r1, r2, r3, r4, r5) := by rw [if_pos rfl] at H; exact H
        clear H
        have H := H1
        clear H1
        simp only [Option.some.injEq, Prod.mk.injEq] at H
        obtain ⟨rfl, rfl, rfl, rfl, rfl⟩ := H
        have hnb20 := NB247_254.out
        have hnc20 := NB254_247.out
        have hnb21 := NB247_261.out
        have hnc21 := NB261_247.out
        have hcz22_0 : wc.cell? ⟨gb247, 0, none⟩ = some (.int .i64 0) := (j' BK247.out 0).trans rfl
        have hcz22_1 : wc.cell? ⟨gb247, 1, none⟩ = some (.int .i64 0) := (j' BK247.out 1).trans rfl
        have hcz22_2 : wc.cell? ⟨gb247, 2, none⟩ = some (.slice none 0 0) := (j' BK247.out 2).trans rfl
        have hfz22_0 := d' BK247.out 0
        have hfz22_1 := d' BK247.out 1
        have hfz22_2 := d' BK247.out 2
        go_wp2
        refine bodyPost_ret (results_ctt rfl _ _ gb247 24 #[.int .i64 0, .int .i64 0, .slice none 0 0] (0, 0) _ rfl (by (with_reducible repeat (first | apply b' | apply e' | apply c')); refine blk_put (cs := #[.int .i64 0, .int .i64 0, .slice none 0 0]) ?_ 2 _ rfl; (with_reducible repeat (first | apply b' | apply e' | apply c')); refine blk_put (cs := #[.int .i64 0, .int .i64 0, .slice none 0 0]) ?_ 1 _ rfl; (with_reducible repeat (first | apply b' | apply e' | apply c')); refine blk_put (cs := #[.int .i64 0, .int .i64 0, .slice none 0 0]) ?_ 0 _ rfl; (with_reducible repeat (first | apply b' | apply e' | apply c')); exact BK247.out) Try.underlying24 rfl (by kernel_rfl)) rfl ?_
        exact ⟨_, by first | rfl | (simp [errW_none, errW_some] <;> rfl) | (simp [*, errW_none, errW_some] <;> rfl), by first | exact Kd.R_nil _ _ _ _ _ | exact Kd.N_nil _ _ _ _ _ | exact Kd.V_nil _ _ _ _ _ | exact Kd.Q_nil _ _ _ _ _ | exact Kd.S_nil _ _ _ _ _, by repeat (first | (with_reducible first | exact HB.out | apply g' | apply a' | apply f' | refine h' ?_ GE247.out | refine h' ?_ GE254.out | refine h' ?_ GE261.out) | exact HB.out)⟩
      · replace c19 := Bool.eq_false_iff.mpr c19
        subst c19
        have H1 : (if t253 = 0 then (if t260 = 0 then (if t255 > t248 then (some (t255, t256, t257, 1, 0)) else (some (t248, t249, t250, 0, 0))) else (some (t248, t249, t250, 0, 0))) else (some (t255, t256, t257, 1, 0))) = some (r1, r2, r3, r4, r5) := by rw [if_neg (show ¬ (false = true) by decide)] at H; exact H
        clear H
        have H := H1
        clear H1
        by_cases c23 : t253 = 0
        · rw [if_pos c23] at H
          have c23b0 : (t253 == 0) = true := beq_iff_eq.mpr c23
          have c23b1 : (t253 != 0) = false := bne_eq_false_iff_eq.mpr c23
          clear c23
          by_cases c24 : t260 = 0
          · rw [if_pos c24] at H
            have c24b0 : (t260 == 0) = true := beq_iff_eq.mpr c24
            have c24b1 : (t260 != 0) = false := bne_eq_false_iff_eq.mpr c24
            clear c24
            by_cases c25 : t255 > t248
            · rw [if_pos c25] at H
              have c25b0 : decide (t248 < t255) = true := decide_eq_true c25
              clear c25
              simp only [Option.some.injEq, Prod.mk.injEq] at H
              obtain ⟨rfl, rfl, rfl, rfl, rfl⟩ := H
              have hnb26 := NB261_247.out
              have hnc26 := NB247_261.out
              have hnb27 := NB261_254.out
              have hnc27 := NB254_261.out
              have hcz28_0 : wc.cell? ⟨gb261, 0, none⟩ = some (.int .i64 t255) := (j' BK261.out 0).trans rfl
              have hcz28_1 : wc.cell? ⟨gb261, 1, none⟩ = some (.int .i64 t256) := (j' BK261.out 1).trans rfl
              have hcz28_2 : wc.cell? ⟨gb261, 2, none⟩ = some (.slice Ao17 t257.length co17) := (j' BK261.out 2).trans rfl
              have hfz28_0 := d' BK261.out 0
              have hfz28_1 := d' BK261.out 1
              have hfz28_2 := d' BK261.out 2
              have hnb29 := NB254_247.out
              have hnc29 := NB247_254.out
              have hcz30_0 : wc.cell? ⟨gb254, 0, none⟩ = some (.int .i64 t248) := (j' BK254.out 0).trans rfl
              have hcz30_1 : wc.cell? ⟨gb254, 1, none⟩ = some (.int .i64 t249) := (j' BK254.out 1).trans rfl
              have hcz30_2 : wc.cell? ⟨gb254, 2, none⟩ = some (.slice Ao11 t250.length co11) := (j' BK254.out 2).trans rfl
              have hfz30_0 := d' BK254.out 0
              have hfz30_1 := d' BK254.out 1
              have hfz30_2 := d' BK254.out 2
              have hcz31_0 : wc.cell? ⟨gb247, 0, none⟩ = some (.int .i64 0) := (j' BK247.out 0).trans rfl
              have hcz31_1 : wc.cell? ⟨gb247, 1, none⟩ = some (.int .i64 0) := (j' BK247.out 1).trans rfl
              have hcz31_2 : wc.cell? ⟨gb247, 2, none⟩ = some (.slice none 0 0) := (j' BK247.out 2).trans rfl
              have hfz31_0 := d' BK247.out 0
              have hfz31_1 := d' BK247.out 1
              have hfz31_2 := d' BK247.out 2
              go_wp2
              refine bodyPost_ret (results_ctt rfl _ _ gb247 24 #[.int .i64 t255, .int .i64 t256, .slice Ao17 t257.length co17] (0, 0) _ rfl (by (with_reducible repeat (first | apply b' | apply e' | apply c')); refine blk_put (cs := #[.int .i64 t255, .int .i64 t256, .slice none 0 0]) ?_ 2 _ rfl; (with_reducible repeat (first | apply b' | apply e' | apply c')); refine blk_put (cs := #[.int .i64 t255, .int .i64 0, .slice none 0 0]) ?_ 1 _ rfl; (with_reducible repeat (first | apply b' | apply e' | apply c')); refine blk_put (cs := #[.int .i64 0, .int .i64 0, .slice none 0 0]) ?_ 0 _ rfl; (with_reducible repeat (first | apply b' | apply e' | apply c')); exact BK247.out) Try.underlying24 rfl (by kernel_rfl)) rfl ?_
              exact ⟨_, by first | rfl | (simp [errW_none, errW_some] <;> rfl) | (simp [*, errW_none, errW_some] <;> rfl), by (with_reducible repeat (first | apply Kd.R_alloc | apply Kd.R_drewN | apply Kd.R_drew)); exact Kd.R_mono (k' (p := ⟨gb247, 2, none⟩) (k' (p := ⟨gb247, 1, none⟩) (k' (p := ⟨gb247, 0, none⟩) (Kd.R_types HO_262002.out BK247.out (by decide)) (fun _ hk => hk.2) (.int .i64 t255)) (fun _ hk => hk.2) (.int .i64 t256)) (fun _ hk => hk.2) (.slice Ao17 t257.length co17)) (fun _ hk => trivial), by repeat (first | (with_reducible first | exact HB.out | apply g' | apply a' | apply f' | refine h' ?_ GE247.out | refine h' ?_ GE254.out | refine h' ?_ GE261.out) | exact HB.out)⟩
            · rw [if_neg c25] at H
              have c25b0 : decide (t248 < t255) = false := decide_eq_false c25
              clear c25
              simp only [Option.some.injEq, Prod.mk.injEq] at H
              obtain ⟨rfl, rfl, rfl, rfl, rfl⟩ := H
              have hnb32 := NB261_247.out
              have hnc32 := NB247_261.out
              have hnb33 := NB261_254.out
              have hnc33 := NB254_261.out
              have hcz34_0 : wc.cell? ⟨gb261, 0, none⟩ = some (.int .i64 t255) := (j' BK261.out 0).trans rfl
              have hcz34_1 : wc.cell? ⟨gb261, 1, none⟩ = some (.int .i64 t256) := (j' BK261.out 1).trans rfl
              have hcz34_2 : wc.cell? ⟨gb261, 2, none⟩ = some (.slice Ao17 t257.length co17) := (j' BK261.out 2).trans rfl
              have hfz34_0 := d' BK261.out 0
              have hfz34_1 := d' BK261.out 1
              have hfz34_2 := d' BK261.out 2
              have hnb35 := NB254_247.out
              have hnc35 := NB247_254.out
              have hcz36_0 : wc.cell? ⟨gb254, 0, none⟩ = some (.int .i64 t248) := (j' BK254.out 0).trans rfl
              have hcz36_1 : wc.cell? ⟨gb254, 1, none⟩ = some (.int .i64 t249) := (j' BK254.out 1).trans rfl
              have hcz36_2 : wc.cell? ⟨gb254, 2, none⟩ = some (.slice Ao11 t250.length co11) := (j' BK254.out 2).trans rfl
              have hfz36_0 := d' BK254.out 0
              have hfz36_1 := d' BK254.out 1
              have hfz36_2 := d' BK254.out 2
              have hcz37_0 : wc.cell? ⟨gb247, 0, none⟩ = some (.int .i64 0) := (j' BK247.out 0).trans rfl
              have hcz37_1 : wc.cell? ⟨gb247, 1, none⟩ = some (.int .i64 0) := (j' BK247.out 1).trans rfl
              have hcz37_2 : wc.cell? ⟨gb247, 2, none⟩ = some (.slice none 0 0) := (j' BK247.out 2).trans rfl
              have hfz37_0 := d' BK247.out 0
              have hfz37_1 := d' BK247.out 1
              have hfz37_2 := d' BK247.out 2
              go_wp2
              refine bodyPost_ret (results_ctt rfl _ _ gb247 24 #[.int .i64 t248, .int .i64 t249, .slice Ao11 t250.length co11] (0, 0) _ rfl (by (with_reducible repeat (first | apply b' | apply e' | apply c')); refine blk_put (cs := #[.int .i64 t248, .int .i64 t249, .slice none 0 0]) ?_ 2 _ rfl; (with_reducible repeat (first | apply b' | apply e' | apply c')); refine blk_put (cs := #[.int .i64 t248, .int .i64 0, .slice none 0 0]) ?_ 1 _ rfl; (with_reducible repeat (first | apply b' | apply e' | apply c')); refine blk_put (cs := #[.int .i64 0, .int .i64 0, .slice none 0 0]) ?_ 0 _ rfl; (with_reducible repeat (first | apply b' | apply e' | apply c')); exact BK247.out) Try.underlying24 rfl (by kernel_rfl)) rfl ?_
              exact ⟨_, by first | rfl | (simp [errW_none, errW_some] <;> rfl) | (simp [*, errW_none, errW_some] <;> rfl), by (with_reducible repeat (first | apply Kd.R_alloc | apply Kd.R_drewN | apply Kd.R_drew)); exact Kd.R_mono (k' (p := ⟨gb247, 2, none⟩) (k' (p := ⟨gb247, 1, none⟩) (k' (p := ⟨gb247, 0, none⟩) (Kd.R_types HO_255002.out BK247.out (by decide)) (fun _ hk => hk.2) (.int .i64 t248)) (fun _ hk => hk.2) (.int .i64 t249)) (fun _ hk => hk.2) (.slice Ao11 t250.length co11)) (fun _ hk => trivial), by repeat (first | (with_reducible first | exact HB.out | apply g' | apply a' | apply f' | refine h' ?_ GE247.out | refine h' ?_ GE254.out | refine h' ?_ GE261.out) | exact HB.out)⟩
          · rw [if_neg c24] at H
            have c24b0 : (t260 == 0) = false := beq_eq_false_iff_ne.mpr c24
            have c24b1 : (t260 != 0) = true := bne_iff_ne.mpr c24
            simp only [Option.some.injEq, Prod.mk.injEq] at H
            obtain ⟨rfl, rfl, rfl, rfl, rfl⟩ := H
            have hnb38 := NB254_247.out
            have hnc38 := NB247_254.out
            have hnb39 := NB254_261.out
            have hnc39 := NB261_254.out
            have hcz40_0 : wc.cell? ⟨gb254, 0, none⟩ = some (.int .i64 t248) := (j' BK254.out 0).trans rfl
            have hcz40_1 : wc.cell? ⟨gb254, 1, none⟩ = some (.int .i64 t249) := (j' BK254.out 1).trans rfl
            have hcz40_2 : wc.cell? ⟨gb254, 2, none⟩ = some (.slice Ao11 t250.length co11) := (j' BK254.out 2).trans rfl
            have hfz40_0 := d' BK254.out 0
            have hfz40_1 := d' BK254.out 1
            have hfz40_2 := d' BK254.out 2
            have hnb41 := NB247_261.out
            have hnc41 := NB261_247.out
            have hcz42_0 : wc.cell? ⟨gb247, 0, none⟩ = some (.int .i64 0) := (j' BK247.out 0).trans rfl
            have hcz42_1 : wc.cell? ⟨gb247, 1, none⟩ = some (.int .i64 0) := (j' BK247.out 1).trans rfl
            have hcz42_2 : wc.cell? ⟨gb247, 2, none⟩ = some (.slice none 0 0) := (j' BK247.out 2).trans rfl
            have hfz42_0 := d' BK247.out 0
            have hfz42_1 := d' BK247.out 1
            have hfz42_2 := d' BK247.out 2
            go_wp2
            refine bodyPost_ret (results_ctt rfl _ _ gb247 24 #[.int .i64 t248, .int .i64 t249, .slice Ao11 t250.length co11] (0, 0) _ rfl (by (with_reducible repeat (first | apply b' | apply e' | apply c')); refine blk_put (cs := #[.int .i64 t248, .int .i64 t249, .slice none 0 0]) ?_ 2 _ rfl; (with_reducible repeat (first | apply b' | apply e' | apply c')); refine blk_put (cs := #[.int .i64 t248, .int .i64 0, .slice none 0 0]) ?_ 1 _ rfl; (with_reducible repeat (first | apply b' | apply e' | apply c')); refine blk_put (cs := #[.int .i64 0, .int .i64 0, .slice none 0 0]) ?_ 0 _ rfl; (with_reducible repeat (first | apply b' | apply e' | apply c')); exact BK247.out) Try.underlying24 rfl (by kernel_rfl)) rfl ?_
            exact ⟨_, by first | rfl | (simp [errW_none, errW_some] <;> rfl) | (simp [*, errW_none, errW_some] <;> rfl), by (with_reducible repeat (first | apply Kd.R_alloc | apply Kd.R_drewN | apply Kd.R_drew)); exact Kd.R_mono (k' (p := ⟨gb247, 2, none⟩) (k' (p := ⟨gb247, 1, none⟩) (k' (p := ⟨gb247, 0, none⟩) (Kd.R_types HO_255002.out BK247.out (by decide)) (fun _ hk => hk.2) (.int .i64 t248)) (fun _ hk => hk.2) (.int .i64 t249)) (fun _ hk => hk.2) (.slice Ao11 t250.length co11)) (fun _ hk => trivial), by repeat (first | (with_reducible first | exact HB.out | apply g' | apply a' | apply f' | refine h' ?_ GE247.out | refine h' ?_ GE254.out | refine h' ?_ GE261.out) | exact HB.out)⟩
        · rw [if_neg c23] at H
          have c23b0 : (t253 == 0) = false := beq_eq_false_iff_ne.mpr c23
          have c23b1 : (t253 != 0) = true := bne_iff_ne.mpr c23
          simp only [Option.some.injEq, Prod.mk.injEq] at H
          obtain ⟨rfl, rfl, rfl, rfl, rfl⟩ := H
          have hnb43 := NB261_247.out
          have hnc43 := NB247_261.out
          have hnb44 := NB261_254.out
          have hnc44 := NB254_261.out
          have hcz45_0 : wc.cell? ⟨gb261, 0, none⟩ = some (.int .i64 t255) := (j' BK261.out 0).trans rfl
          have hcz45_1 : wc.cell? ⟨gb261, 1, none⟩ = some (.int .i64 t256) := (j' BK261.out 1).trans rfl
          have hcz45_2 : wc.cell? ⟨gb261, 2, none⟩ = some (.slice Ao17 t257.length co17) := (j' BK261.out 2).trans rfl
          have hfz45_0 := d' BK261.out 0
          have hfz45_1 := d' BK261.out 1
          have hfz45_2 := d' BK261.out 2
          have hnb46 := NB247_254.out
          have hnc46 := NB254_247.out
          have hcz47_0 : wc.cell? ⟨gb247, 0, none⟩ = some (.int .i64 0) := (j' BK247.out 0).trans rfl
          have hcz47_1 : wc.cell? ⟨gb247, 1, none⟩ = some (.int .i64 0) := (j' BK247.out 1).trans rfl
          have hcz47_2 : wc.cell? ⟨gb247, 2, none⟩ = some (.slice none 0 0) := (j' BK247.out 2).trans rfl
          have hfz47_0 := d' BK247.out 0
          have hfz47_1 := d' BK247.out 1
          have hfz47_2 := d' BK247.out 2
          go_wp2
          refine bodyPost_ret (results_ctt rfl _ _ gb247 24 #[.int .i64 t255, .int .i64 t256, .slice Ao17 t257.length co17] (0, 0) _ rfl (by (with_reducible repeat (first | apply b' | apply e' | apply c')); refine blk_put (cs := #[.int .i64 t255, .int .i64 t256, .slice none 0 0]) ?_ 2 _ rfl; (with_reducible repeat (first | apply b' | apply e' | apply c')); refine blk_put (cs := #[.int .i64 t255, .int .i64 0, .slice none 0 0]) ?_ 1 _ rfl; (with_reducible repeat (first | apply b' | apply e' | apply c')); refine blk_put (cs := #[.int .i64 0, .int .i64 0, .slice none 0 0]) ?_ 0 _ rfl; (with_reducible repeat (first | apply b' | apply e' | apply c')); exact BK247.out) Try.underlying24 rfl (by kernel_rfl)) rfl ?_
          exact ⟨_, by first | rfl | (simp [errW_none, errW_some] <;> rfl) | (simp [*, errW_none, errW_some] <;> rfl), by (with_reducible repeat (first | apply Kd.R_alloc | apply Kd.R_drewN | apply Kd.R_drew)); exact Kd.R_mono (k' (p := ⟨gb247, 2, none⟩) (k' (p := ⟨gb247, 1, none⟩) (k' (p := ⟨gb247, 0, none⟩) (Kd.R_types HO_262002.out BK247.out (by decide)) (fun _ hk => hk.2) (.int .i64 t255)) (fun _ hk => hk.2) (.int .i64 t256)) (fun _ hk => hk.2) (.slice Ao17 t257.length co17)) (fun _ hk => trivial), by repeat (first | (with_reducible first | exact HB.out | apply g' | apply a' | apply f' | refine h' ?_ GE247.out | refine h' ?_ GE254.out | refine h' ?_ GE261.out) | exact HB.out)⟩
def fanlightplain_SameBytes.f (l0 : List Int) (l1 : List Int) : Option (Bool) := some ((strOfNums l0).toList == (strOfNums l1).toList)
set_option maxHeartbeats 8000000 in
set_option maxRecDepth 100000 in
theorem fanlightplain_SameBytes.calls (A0 : Option Addr) (c0 : Nat) (l0 : List Int) (A1 : Option Addr) (c1 : Nat) (l1 : List Int) (r : Bool) (w : World) (hr0 : Kd.C (Kd.int .u8) w A0 l0.length l0) (hc0 : l0.length ≤ c0) (hr1 : Kd.C (Kd.int .u8) w A1 l1.length l1) (hc1 : l1.length ≤ c1) (h : fanlightplain_SameBytes.f l0 l1 = some r) :
    Calls Try.prog 21 #[.slice A0 l0.length c0, .slice A1 l1.length c1] w fun e w' => e = .returned (.bool r) ∧ Drawn0 w w' := by
  have HR0 := m' hr0
  have HC0 := m' hc0
  clear hr0 hc0
  have HR1 := m' hr1
  have HC1 := m' hc1
  clear hr1 hc1
  have H : (some ((strOfNums l0).toList == (strOfNums l1).toList)) = some r := h
  clear h
  obtain rfl := Option.some.inj H
  have hcv3 := Kd.C_string (P := Try.prog) (A := A0) (c := c0) Try.underlying22 Try.underlying5 Try.underlying9 HR0.out
  have hcv4 := Kd.C_string (P := Try.prog) (A := A1) (c := c1) Try.underlying22 Try.underlying5 Try.underlying9 HR1.out
  go_enter Try.func21, Try.ntmps21
  go_wp2
  go_ret
  exact ⟨by first | rfl | (simp; done) | (simp [*]; done), by repeat (first | exact Drawn0.refl _ | apply Drawn0.step)⟩
def fanlightlaw07_num.f (a0 : Int) : Option (Int) := some a0
set_option maxHeartbeats 8000000 in
set_option maxRecDepth 100000 in
theorem fanlightlaw07_num.calls (a0 : Int) (r : Int) (w : World) (h : fanlightlaw07_num.f a0 = some r) :
    Calls Try.prog 22 #[.int .i64 a0] w fun e w' => e = .returned (.int .i64 r) ∧ Drawn0 w w' := by
  have H : (some a0) = some r := h
  clear h
  obtain rfl := Option.some.inj H
  go_enter Try.func22, Try.ntmps22
  go_wp2
  go_ret
  exact ⟨by first | rfl | (simp; done) | (simp [*]; done), by repeat (first | exact Drawn0.refl _ | apply Drawn0.step)⟩
def fanlightlaw07_same.f (a0_0 : Int) (a0_1 : Int) (l0_2 : List Int) (a1_0 : Int) (a1_1 : Int) (l1_2 : List Int) : Option (Bool) := if a0_0 = a1_0 then (if a0_1 = a1_1 then ((fanlightplain_SameBytes.f l0_2 l1_2).bind fun t264 => (some t264)) else (some false)) else (some false)
set_option maxHeartbeats 8000000 in
set_option maxRecDepth 100000 in
theorem fanlightlaw07_same.calls (a0_0 : Int) (a0_1 : Int) (A0_2 : Option Addr) (c0_2 : Nat) (l0_2 : List Int) (a1_0 : Int) (a1_1 : Int) (A1_2 : Option Addr) (c1_2 : Nat) (l1_2 : List Int) (r : Bool) (w : World) (hr0_2 : Kd.C (Kd.int .u8) w A0_2 l0_2.length l0_2) (hc0_2 : l0_2.length ≤ c0_2) (hr1_2 : Kd.C (Kd.int .u8) w A1_2 l1_2.length l1_2) (hc1_2 : l1_2.length ≤ c1_2) (h : fanlightlaw07_same.f a0_0 a0_1 l0_2 a1_0 a1_1 l1_2 = some r) :
    Calls Try.prog 23 #[.agg #[.int .i64 a0_0, .int .i64 a0_1, .slice A0_2 l0_2.length c0_2], .agg #[.int .i64 a1_0, .int .i64 a1_1, .slice A1_2 l1_2.length c1_2]] w fun e w' => e = .returned (.bool r) ∧ Below w.heap.size w w' := by
  have hu25 := Try.underlying25
  have hu24 := Try.underlying24
  have HR0_2 := m' hr0_2
  have HC0_2 := m' hc0_2
  clear hr0_2 hc0_2
  have HR1_2 := m' hr1_2
  have HC1_2 := m' hc1_2
  clear hr1_2 hc1_2
  have HB := m' (Below.refl w.heap.size w)
  have H : (if a0_0 = a1_0 then (if a0_1 = a1_1 then ((fanlightplain_SameBytes.f l0_2 l1_2).bind fun t264 => (some t264)) else (some false)) else (some false)) = some r := h
  clear h
  by_cases c3 : a0_0 = a1_0
  · rw [if_pos c3] at H
    have c3b0 : (a0_0 == a1_0) = true := beq_iff_eq.mpr c3
    have c3b1 : (a0_0 != a1_0) = false := bne_eq_false_iff_eq.mpr c3
    clear c3
    by_cases c4 : a0_1 = a1_1
    · rw [if_pos c4] at H
      have c4b0 : (a0_1 == a1_1) = true := beq_iff_eq.mpr c4
      have c4b1 : (a0_1 != a1_1) = false := bne_eq_false_iff_eq.mpr c4
      clear c4
      replace H := Option.bind_eq_some_iff.mp H
      obtain ⟨t264, A50, H⟩ := H
      replace H : (some t264) = some r := H
      have A5 := m' A50
      clear A50
      obtain rfl := Option.some.inj H
      go_enter Try.func23, Try.ntmps23
      go_wp2_with (first | ((with_reducible refine gate_dst (N := 2) rfl ?_); refine box_event ?hg (N := 2) ?hd (cs := #[.int .i64 a0_0, .int .i64 a0_1, .slice A0_2 l0_2.length c0_2]) (t := 25) ?hr ?_; (case hd => rfl); (case hg => rfl); (case hr => first | (go_simp; done) | (go_simp; rfl)); intro gb262 hg w6 hbox hb; have n0_ := m' (below_step (by repeat (first | (with_reducible first | exact HB.out | apply g' | apply a' | apply f') | exact HB.out)) hb); have n1_ := m' (hbox); have n2_ := m' ((by rw [hg]; exact (l' (by repeat (first | (with_reducible first | exact HB.out | apply g' | apply a' | apply f') | exact HB.out))) : w.heap.size ≤ gb262)); have n3_ := m' ((by rw [hg]; exact (l' (by repeat (first | (with_reducible first | exact HB.out | apply g' | apply a' | apply f') | exact HB.out))) : w.heap.size ≤ gb262)); clear HB; have HB := n0_; have BK262 := n1_; have GW262 := n2_; have GE262 := n3_; clear n0_ n1_ n2_ n3_; clear hb hbox hg) | ((with_reducible refine gate_dst (N := 3) rfl ?_); refine box_event ?hg (N := 3) ?hd (cs := #[.int .i64 a1_0, .int .i64 a1_1, .slice A1_2 l1_2.length c1_2]) (t := 24) ?hr ?_; (case hd => rfl); (case hg => rfl); (case hr => first | (go_simp; done) | (go_simp; rfl)); intro gb263 hg w7 hbox hb; have n0_ := m' (blk_below (g := gb262) (o := .cells #[.int .i64 a0_0, .int .i64 a0_1, .slice A0_2 l0_2.length c0_2] 25 (0, 0)) (by (with_reducible repeat (first | apply b' | apply e' | apply c')); exact BK262.out) hb); have n1_ := m' (below_step (by repeat (first | (with_reducible first | exact HB.out | apply g' | apply a' | apply f' | refine h' ?_ GE262.out) | exact HB.out)) hb); have n2_ := m' (hbox); have n3_ := m' ((by rw [hg]; exact (l' (by repeat (first | (with_reducible first | exact HB.out | apply g' | apply a' | apply f' | refine h' ?_ GE262.out) | exact HB.out))) : w.heap.size ≤ gb263)); have n4_ := m' ((by rw [hg]; exact (l' (by repeat (first | (with_reducible first | exact HB.out | apply g' | apply a' | apply f' | refine h' ?_ GE262.out) | exact HB.out))) : w.heap.size ≤ gb263)); have n5_ := m' ((by rw [hg]; exact Nat.ne_of_lt (blk_lt (g := gb262) (o := .cells #[.int .i64 a0_0, .int .i64 a0_1, .slice A0_2 l0_2.length c0_2] 25 (0, 0)) (by (with_reducible repeat (first | apply b' | apply e' | apply c')); exact BK262.out)) : gb262 ≠ gb263)); have n6_ := m' ((by rw [hg]; exact Nat.ne_of_gt (blk_lt (g := gb262) (o := .cells #[.int .i64 a0_0, .int .i64 a0_1, .slice A0_2 l0_2.length c0_2] 25 (0, 0)) (by (with_reducible repeat (first | apply b' | apply e' | apply c')); exact BK262.out)) : gb263 ≠ gb262)); clear BK262; clear HB; have BK262 := n0_; have HB := n1_; have BK263 := n2_; have GW263 := n3_; have GE263 := n4_; have NB262_263 := n5_; have NB263_262 := n6_; clear n0_ n1_ n2_ n3_ n4_ n5_ n6_; clear hb hbox hg; have hnb8 := NB262_263.out; have hnc8 := NB263_262.out; have hcz9_0 : w7.cell? ⟨gb262, 0, none⟩ = some (.int .i64 a0_0) := (j' BK262.out 0).trans rfl; have hcz9_1 : w7.cell? ⟨gb262, 1, none⟩ = some (.int .i64 a0_1) := (j' BK262.out 1).trans rfl; have hcz9_2 : w7.cell? ⟨gb262, 2, none⟩ = some (.slice A0_2 l0_2.length c0_2) := (j' BK262.out 2).trans rfl; have hfz9_0 := d' BK262.out 0; have hfz9_1 := d' BK262.out 1; have hfz9_2 := d' BK262.out 2; have hcz10_0 : w7.cell? ⟨gb263, 0, none⟩ = some (.int .i64 a1_0) := (j' BK263.out 0).trans rfl; have hcz10_1 : w7.cell? ⟨gb263, 1, none⟩ = some (.int .i64 a1_1) := (j' BK263.out 1).trans rfl; have hcz10_2 : w7.cell? ⟨gb263, 2, none⟩ = some (.slice A1_2 l1_2.length c1_2) := (j' BK263.out 2).trans rfl; have hfz10_0 := d' BK263.out 0; have hfz10_1 := d' BK263.out 1; have hfz10_2 := d' BK263.out 2) | (go_at_call 21; (with_reducible refine (fanlightplain_SameBytes.calls _ _ l0_2 _ _ l1_2 t264 _ ?side1 ?side2 ?side3 ?side4 A5.out).mono ?_); (case side1 => repeat (first | exact (Kd.C_below HR0_2.out HB.out) | (with_reducible refine Kd.C_alloc ?_ _) | (with_reducible refine Kd.C_drewN ?_ _) | (with_reducible refine Kd.C_drew ?_))); (case side2 => exact HC0_2.out); (case side3 => repeat (first | exact (Kd.C_below HR1_2.out HB.out) | (with_reducible refine Kd.C_alloc ?_ _) | (with_reducible refine Kd.C_drewN ?_ _) | (with_reducible refine Kd.C_drew ?_))); (case side4 => exact HC1_2.out); rintro e w' ⟨rfl, ⟨nd, rfl⟩⟩))
      go_ret
      exact ⟨by first | rfl | (simp [errW_none, errW_some] <;> rfl) | (simp [*, errW_none, errW_some] <;> rfl), by repeat (first | (with_reducible first | exact HB.out | apply g' | apply a' | apply f' | refine h' ?_ GE262.out | refine h' ?_ GE263.out) | exact HB.out)⟩
    · rw [if_neg c4] at H
      have c4b0 : (a0_1 == a1_1) = false := beq_eq_false_iff_ne.mpr c4
      have c4b1 : (a0_1 != a1_1) = true := bne_iff_ne.mpr c4
      obtain rfl := Option.some.inj H
      go_enter Try.func23, Try.ntmps23
      go_wp2_with (first | ((with_reducible refine gate_dst (N := 2) rfl ?_); refine box_event ?hg (N := 2) ?hd (cs := #[.int .i64 a0_0, .int .i64 a0_1, .slice A0_2 l0_2.length c0_2]) (t := 25) ?hr ?_; (case hd => rfl); (case hg => rfl); (case hr => first | (go_simp; done) | (go_simp; rfl)); intro gb262 hg w11 hbox hb; have n0_ := m' (below_step (by repeat (first | (with_reducible first | exact HB.out | apply g' | apply a' | apply f') | exact HB.out)) hb); have n1_ := m' (hbox); have n2_ := m' ((by rw [hg]; exact (l' (by repeat (first | (with_reducible first | exact HB.out | apply g' | apply a' | apply f') | exact HB.out))) : w.heap.size ≤ gb262)); have n3_ := m' ((by rw [hg]; exact (l' (by repeat (first | (with_reducible first | exact HB.out | apply g' | apply a' | apply f') | exact HB.out))) : w.heap.size ≤ gb262)); clear HB; have HB := n0_; have BK262 := n1_; have GW262 := n2_; have GE262 := n3_; clear n0_ n1_ n2_ n3_; clear hb hbox hg) | ((with_reducible refine gate_dst (N := 3) rfl ?_); refine box_event ?hg (N := 3) ?hd (cs := #[.int .i64 a1_0, .int .i64 a1_1, .slice A1_2 l1_2.length c1_2]) (t := 24) ?hr ?_; (case hd => rfl); (case hg => rfl); (case hr => first | (go_simp; done) | (go_simp; rfl)); intro gb263 hg w12 hbox hb; have n0_ := m' (blk_below (g := gb262) (o := .cells #[.int .i64 a0_0, .int .i64 a0_1, .slice A0_2 l0_2.length c0_2] 25 (0, 0)) (by (with_reducible repeat (first | apply b' | apply e' | apply c')); exact BK262.out) hb); have n1_ := m' (below_step (by repeat (first | (with_reducible first | exact HB.out | apply g' | apply a' | apply f' | refine h' ?_ GE262.out) | exact HB.out)) hb); have n2_ := m' (hbox); have n3_ := m' ((by rw [hg]; exact (l' (by repeat (first | (with_reducible first | exact HB.out | apply g' | apply a' | apply f' | refine h' ?_ GE262.out) | exact HB.out))) : w.heap.size ≤ gb263)); have n4_ := m' ((by rw [hg]; exact (l' (by repeat (first | (with_reducible first | exact HB.out | apply g' | apply a' | apply f' | refine h' ?_ GE262.out) | exact HB.out))) : w.heap.size ≤ gb263)); have n5_ := m' ((by rw [hg]; exact Nat.ne_of_lt (blk_lt (g := gb262) (o := .cells #[.int .i64 a0_0, .int .i64 a0_1, .slice A0_2 l0_2.length c0_2] 25 (0, 0)) (by (with_reducible repeat (first | apply b' | apply e' | apply c')); exact BK262.out)) : gb262 ≠ gb263)); have n6_ := m' ((by rw [hg]; exact Nat.ne_of_gt (blk_lt (g := gb262) (o := .cells #[.int .i64 a0_0, .int .i64 a0_1, .slice A0_2 l0_2.length c0_2] 25 (0, 0)) (by (with_reducible repeat (first | apply b' | apply e' | apply c')); exact BK262.out)) : gb263 ≠ gb262)); clear BK262; clear HB; have BK262 := n0_; have HB := n1_; have BK263 := n2_; have GW263 := n3_; have GE263 := n4_; have NB262_263 := n5_; have NB263_262 := n6_; clear n0_ n1_ n2_ n3_ n4_ n5_ n6_; clear hb hbox hg; have hnb13 := NB262_263.out; have hnc13 := NB263_262.out; have hcz14_0 : w12.cell? ⟨gb262, 0, none⟩ = some (.int .i64 a0_0) := (j' BK262.out 0).trans rfl; have hcz14_1 : w12.cell? ⟨gb262, 1, none⟩ = some (.int .i64 a0_1) := (j' BK262.out 1).trans rfl; have hcz14_2 : w12.cell? ⟨gb262, 2, none⟩ = some (.slice A0_2 l0_2.length c0_2) := (j' BK262.out 2).trans rfl; have hfz14_0 := d' BK262.out 0; have hfz14_1 := d' BK262.out 1; have hfz14_2 := d' BK262.out 2; have hcz15_0 : w12.cell? ⟨gb263, 0, none⟩ = some (.int .i64 a1_0) := (j' BK263.out 0).trans rfl; have hcz15_1 : w12.cell? ⟨gb263, 1, none⟩ = some (.int .i64 a1_1) := (j' BK263.out 1).trans rfl; have hcz15_2 : w12.cell? ⟨gb263, 2, none⟩ = some (.slice A1_2 l1_2.length c1_2) := (j' BK263.out 2).trans rfl; have hfz15_0 := d' BK263.out 0; have hfz15_1 := d' BK263.out 1; have hfz15_2 := d' BK263.out 2))
      go_ret
      exact ⟨by first | rfl | (simp [errW_none, errW_some] <;> rfl) | (simp [*, errW_none, errW_some] <;> rfl), by repeat (first | (with_reducible first | exact HB.out | apply g' | apply a' | apply f' | refine h' ?_ GE262.out | refine h' ?_ GE263.out) | exact HB.out)⟩
  · rw [if_neg c3] at H
    have c3b0 : (a0_0 == a1_0) = false := beq_eq_false_iff_ne.mpr c3
    have c3b1 : (a0_0 != a1_0) = true := bne_iff_ne.mpr c3
    obtain rfl := Option.some.inj H
    go_enter Try.func23, Try.ntmps23
    go_wp2_with (first | ((with_reducible refine gate_dst (N := 2) rfl ?_); refine box_event ?hg (N := 2) ?hd (cs := #[.int .i64 a0_0, .int .i64 a0_1, .slice A0_2 l0_2.length c0_2]) (t := 25) ?hr ?_; (case hd => rfl); (case hg => rfl); (case hr => first | (go_simp; done) | (go_simp; rfl)); intro gb262 hg w16 hbox hb; have n0_ := m' (below_step (by repeat (first | (with_reducible first | exact HB.out | apply g' | apply a' | apply f') | exact HB.out)) hb); have n1_ := m' (hbox); have n2_ := m' ((by rw [hg]; exact (l' (by repeat (first | (with_reducible first | exact HB.out | apply g' | apply a' | apply f') | exact HB.out))) : w.heap.size ≤ gb262)); have n3_ := m' ((by rw [hg]; exact (l' (by repeat (first | (with_reducible first | exact HB.out | apply g' | apply a' | apply f') | exact HB.out))) : w.heap.size ≤ gb262)); clear HB; have HB := n0_; have BK262 := n1_; have GW262 := n2_; have GE262 := n3_; clear n0_ n1_ n2_ n3_; clear hb hbox hg) | ((with_reducible refine gate_dst (N := 3) rfl ?_); refine box_event ?hg (N := 3) ?hd (cs := #[.int .i64 a1_0, .int .i64 a1_1, .slice A1_2 l1_2.length c1_2]) (t := 24) ?hr ?_; (case hd => rfl); (case hg => rfl); (case hr => first | (go_simp; done) | (go_simp; rfl)); intro gb263 hg w17 hbox hb; have n0_ := m' (blk_below (g := gb262) (o := .cells #[.int .i64 a0_0, .int .i64 a0_1, .slice A0_2 l0_2.length c0_2] 25 (0, 0)) (by (with_reducible repeat (first | apply b' | apply e' | apply c')); exact BK262.out) hb); have n1_ := m' (below_step (by repeat (first | (with_reducible first | exact HB.out | apply g' | apply a' | apply f' | refine h' ?_ GE262.out) | exact HB.out)) hb); have n2_ := m' (hbox); have n3_ := m' ((by rw [hg]; exact (l' (by repeat (first | (with_reducible first | exact HB.out | apply g' | apply a' | apply f' | refine h' ?_ GE262.out) | exact HB.out))) : w.heap.size ≤ gb263)); have n4_ := m' ((by rw [hg]; exact (l' (by repeat (first | (with_reducible first | exact HB.out | apply g' | apply a' | apply f' | refine h' ?_ GE262.out) | exact HB.out))) : w.heap.size ≤ gb263)); have n5_ := m' ((by rw [hg]; exact Nat.ne_of_lt (blk_lt (g := gb262) (o := .cells #[.int .i64 a0_0, .int .i64 a0_1, .slice A0_2 l0_2.length c0_2] 25 (0, 0)) (by (with_reducible repeat (first | apply b' | apply e' | apply c')); exact BK262.out)) : gb262 ≠ gb263)); have n6_ := m' ((by rw [hg]; exact Nat.ne_of_gt (blk_lt (g := gb262) (o := .cells #[.int .i64 a0_0, .int .i64 a0_1, .slice A0_2 l0_2.length c0_2] 25 (0, 0)) (by (with_reducible repeat (first | apply b' | apply e' | apply c')); exact BK262.out)) : gb263 ≠ gb262)); clear BK262; clear HB; have BK262 := n0_; have HB := n1_; have BK263 := n2_; have GW263 := n3_; have GE263 := n4_; have NB262_263 := n5_; have NB263_262 := n6_; clear n0_ n1_ n2_ n3_ n4_ n5_ n6_; clear hb hbox hg; have hnb18 := NB262_263.out; have hnc18 := NB263_262.out; have hcz19_0 : w17.cell? ⟨gb262, 0, none⟩ = some (.int .i64 a0_0) := (j' BK262.out 0).trans rfl; have hcz19_1 : w17.cell? ⟨gb262, 1, none⟩ = some (.int .i64 a0_1) := (j' BK262.out 1).trans rfl; have hcz19_2 : w17.cell? ⟨gb262, 2, none⟩ = some (.slice A0_2 l0_2.length c0_2) := (j' BK262.out 2).trans rfl; have hfz19_0 := d' BK262.out 0; have hfz19_1 := d' BK262.out 1; have hfz19_2 := d' BK262.out 2; have hcz20_0 : w17.cell? ⟨gb263, 0, none⟩ = some (.int .i64 a1_0) := (j' BK263.out 0).trans rfl; have hcz20_1 : w17.cell? ⟨gb263, 1, none⟩ = some (.int .i64 a1_1) := (j' BK263.out 1).trans rfl; have hcz20_2 : w17.cell? ⟨gb263, 2, none⟩ = some (.slice A1_2 l1_2.length c1_2) := (j' BK263.out 2).trans rfl; have hfz20_0 := d' BK263.out 0; have hfz20_1 := d' BK263.out 1; have hfz20_2 := d' BK263.out 2))
    go_ret
    exact ⟨by first | rfl | (simp [errW_none, errW_some] <;> rfl) | (simp [*, errW_none, errW_some] <;> rfl), by repeat (first | (with_reducible first | exact HB.out | apply g' | apply a' | apply f' | refine h' ?_ GE262.out | refine h' ?_ GE263.out) | exact HB.out)⟩
end Go.Proofs.Ytkdaeleolomdkaa.V
