import Derived.Test.YtkdaeleolomdkaaYV0
import Derived.Test.YtkdaeleolomdkaaYV8
import Derived.Test.YtkdaeleolomdkaaYV15
import Derived.Test.YtkdaeleolomdkaaYV16
namespace Go.Proofs.Ytkdaeleolomdkaa.V
open Go.RowKit Go.Proofs.YtkdaeleolomdkaaW.PrintWords Go.Proofs.YtkdaeleolomdkaaW.PrintLast Go.Proofs.YtkdaeleolomdkaaW.PrintMore
attribute [local go_sem] max2_int min2_int max_two min_two max_three min_three max_four min_four   -- for this text's walks alone
set_option linter.unusedVariables false
set_option linter.unusedSimpArgs false
def tailZero (l : List Int) (n : Nat) : Bool := (l.drop n).all fun x => x == 0
def fanlightref07_Decode.g (k : Nat) (l0 : List Int) (g : Int × List Int × Int × Int) : Option (Int × Int × List Int × Int) :=
  (fanlightref03_Number.f k (g.2.1.take 8)).bind fun x => ((fanlightref03_Number.f k ((g.2.1.take 16).drop 8)).bind fun y => (if x > 1099511627776 ∨ y > 1099511627776 then some (0, 0, [], 4) else
    ((fanlightref04_Copied.f (g.2.1.drop 16)).bind fun d => ((fanlightref07_Check.f k (wrap64 x) (wrap64 y) d).bind fun c => (if c = 0 then (if 0 ≤ g.2.2.1 then (if tailZero l0 g.2.2.1.toNat = true then some (wrap64 x, wrap64 y, d, 0) else some (0, 0, [], 23)) else none) else some (0, 0, [], 5))))))
def fanlightref07_Decode.f (k : Nat) (l0 : List Int) : Option (Int × Int × List Int × Int) :=
  if l0.length = 8160 then ((fanlightref04_Get.f k l0).bind fun g => (if g.2.2.2 = 0 then (if g.1 = 3 then (if g.2.1.length < 16 then some (0, 0, [], 8) else fanlightref07_Decode.g k l0 g) else some (0, 0, [], 22)) else some (0, 0, [], g.2.2.2))) else some (0, 0, [], 3)
theorem fanlightref07_Decode.mono : ∀ a0 k, LeO (fanlightref07_Decode.f k a0) (fanlightref07_Decode.f (k + 1) a0) := by
  intro a0 k
  unfold fanlightref07_Decode.f
  split
  · refine LeO.bind (fanlightref04_Get.mono a0 k) (fun g => ?_)
    split
    · split
      · split
        · exact LeO.refl _
        · unfold fanlightref07_Decode.g
          refine LeO.bind (fanlightref03_Number.mono _ k) (fun x => LeO.bind (fanlightref03_Number.mono _ k) (fun y => ?_))
          split
          · exact LeO.refl _
          · exact LeO.bind (LeO.refl _) (fun d => LeO.bind (fanlightref07_Check.mono _ _ _ k) (fun c => LeO.refl _))
      · exact LeO.refl _
    · exact LeO.refl _
  · exact LeO.refl _
set_option maxHeartbeats 1000000 in
theorem refdec_count (A0 : Option Addr) (c0 : Nat) (l0 : List Int) (w : World) (h : ¬ l0.length = 8160) :
    Calls Try.prog 18 #[.slice A0 l0.length c0] w fun e w' => ∃ v : Value, e = .returned (.tuple #[.agg #[.int .i64 0, .int .i64 0, v], .int .i64 3]) ∧ Kd.R (Kd.int .u8) 5 w' w.heap.size (fun _ => True) v [] ∧ Below w.heap.size w w' := by
  have h1 : ((l0.length : Int) != 8160) = true := bne_iff_ne.mpr (by omega)
  have HX := Aside0.mk (World.alloc_heap_new w (.cells #[.int .i64 0, .int .i64 0, .slice none 0 0] 24))
  have HB := Aside0.mk (below_alloc (Below.refl w.heap.size w) (.cells #[.int .i64 0, .int .i64 0, .slice none 0 0] 24))
  go_enter Try.func18, Try.ntmps18
  go_wp2_with fail
  exact bodyPost_ret (results_ct rfl _ _ w.heap.size 24 #[.int .i64 0, .int .i64 0, .slice none 0 0] (0, 0) _ rfl HX.out Try.underlying24 rfl (by kernel_rfl)) rfl ⟨_, rfl, Kd.R_nil _ _ _ _ _, HB.out⟩
set_option maxRecDepth 100000 in
set_option maxHeartbeats 4000000 in
theorem refdec1 (k : Nat) (ad : Addr) (c0 : Nat) (l0 : List Int) (g : Int × List Int × Int × Int) (r : Int × Int × List Int × Int) (w : World) (hr0 : Kd.C (Kd.int .u8) w (some ad) l0.length l0) (hc0 : l0.length ≤ c0) (hlen : l0.length = 8160)
    (hg : fanlightref04_Get.f k l0 = some g) (hr : (if g.2.2.2 = 0 then (if g.1 = 3 then (if g.2.1.length < 16 then some (0, 0, [], 8) else fanlightref07_Decode.g k l0 g) else some (0, 0, [], 22)) else some (0, 0, [], g.2.2.2)) = some r) :
    Calls Try.prog 18 #[.slice (some ad) l0.length c0] w fun e w' => ∃ v : Value, e = .returned (.tuple #[.agg #[.int .i64 r.1, .int .i64 r.2.1, v], .int .i64 r.2.2.2]) ∧ Kd.R (Kd.int .u8) 5 w' w.heap.size (fun _ => True) v r.2.2.1 ∧ Below w.heap.size w w' := by
  obtain ⟨gk, gd, gn, gx⟩ := g
  obtain ⟨re, rs, rd_, rx⟩ := r
  dsimp only at hr ⊢
  have h1 : ((l0.length : Int) != 8160) = false := bne_eq_false_iff_eq.mpr (by omega)
  have HL := Aside0.mk hlen
  clear hlen
  have HGet := Aside0.mk (fun (W : World) (hW : Below w.heap.size w W) => fanlightref04_Get.calls k (some ad) c0 l0 gk gd gn gx W (Kd.C_below hr0 hW) hc0 hg)
  have HR := Aside0.mk hr0
  have HH := Aside0.mk hr
  clear hg hr0 hr
  have HX0 := Aside0.mk (World.alloc_heap_new w (.cells #[.int .i64 0, .int .i64 0, .slice none 0 0] 24))
  have HB0 := Aside0.mk (below_alloc (Below.refl w.heap.size w) (.cells #[.int .i64 0, .int .i64 0, .slice none 0 0] 24))
  go_enter Try.func18, Try.ntmps18
  go_wp2_with fail
  refine (HGet.out _ HB0.out).mono ?_
  rintro e w1 ⟨v1, rfl, ho1, hb1⟩
  obtain ⟨A1, c1, rfl⟩ := Kd.R_slice ho1
  have HX1 := Aside0.mk ((hb1.block _ (by simp)).trans HX0.out)
  have HB1 := Aside0.mk (HB0.out.trans (hb1.mono (by simp)))
  have HO1 := Aside0.mk (Kd.R_lower ho1 (show w.heap.size ≤ _ by simp))
  clear ho1 hb1 HX0 HB0 HGet
  have K2 := Aside0.mk ((Below.heap_alloc w1 (.cells #[.int .i64 gk, .slice A1 gd.length c1] 84) _ (blk_lt HX1.out)).trans HX1.out)
  have K4 := Aside0.mk (World.alloc_heap_new w1 (.cells #[.int .i64 gk, .slice A1 gd.length c1] 84))
  have KO := Aside0.mk (Kd.R_alloc HO1.out (.cells #[.int .i64 gk, .slice A1 gd.length c1] 84))
  have KB := Aside0.mk (below_alloc HB1.out (.cells #[.int .i64 gk, .slice A1 gd.length c1] 84))
  obtain ⟨b4, hb4⟩ : ∃ b, w1.heap.size = b := ⟨_, rfl⟩
  obtain ⟨w2, hw2⟩ : ∃ w2, w1.alloc (.cells #[.int .i64 gk, .slice A1 gd.length c1] 84) = w2 := ⟨_, rfl⟩
  rw [hb4] at K4
  rw [hw2] at K2 K4 KO KB
  have g4 : w.heap.size < b4 := by have := blk_lt HX1.out; omega
  clear HX1 HB1 HO1
  have x0 : w2.cell? ⟨b4, 0, none⟩ = some (.int .i64 gk) := blk_cell K4.out 0
  have x1 : w2.cell? ⟨b4, 1, none⟩ = some (.slice A1 gd.length c1) := blk_cell K4.out 1
  have y0 : w2.cell? ⟨w.heap.size, 0, none⟩ = some (.int .i64 0) := blk_cell K2.out 0
  have y1 : w2.cell? ⟨w.heap.size, 1, none⟩ = some (.int .i64 0) := blk_cell K2.out 1
  have y2 : w2.cell? ⟨w.heap.size, 2, none⟩ = some (.slice none 0 0) := blk_cell K2.out 2
  have yf : ∀ i, w2.frozen? ⟨w.heap.size, i, none⟩ = false := fun i => by simp [World.frozen?, K2.out]
  by_cases hx : gx = 0
  · subst hx
    have hh := HH.out
    rw [if_pos rfl] at hh
    by_cases hk : gk = 3
    · subst hk
      rw [if_pos rfl] at hh
      by_cases hs : gd.length < 16
      · rw [if_pos hs] at hh
        injection hh with hh
        injection hh with e1 e2
        injection e2 with e2 e3
        injection e3 with e3 e4
        subst e1 e2 e3 e4
        have hs1 : decide ((gd.length : Int) < 16) = true := decide_eq_true (by omega)
        clear HH
        go_wp2_with fail
        exact bodyPost_ret (results_ct rfl _ _ w.heap.size 24 #[.int .i64 0, .int .i64 0, .slice none 0 0] (0, 0) _ rfl (blk_put (blk_put (blk_put K2.out 0 _ rfl) 1 _ rfl) 2 _ rfl) Try.underlying24 rfl (by kernel_rfl)) rfl ⟨_, rfl, Kd.R_nil _ _ _ _ _, (((KB.out.setCell (p := ⟨w.heap.size, 0, none⟩) (Nat.le_refl _) _).setCell (p := ⟨w.heap.size, 1, none⟩) (Nat.le_refl _) _).setCell (p := ⟨w.heap.size, 2, none⟩) (Nat.le_refl _) _)⟩
      · rw [if_neg hs] at hh
        have hs1 : decide ((gd.length : Int) < 16) = false := decide_eq_false (by omega)
        unfold fanlightref07_Decode.g at hh
        obtain ⟨x, hx8, hh⟩ := Option.bind_eq_some_iff.mp hh
        obtain ⟨y, hy8, hh⟩ := Option.bind_eq_some_iff.mp hh
        dsimp only at hx8 hy8 hh
        obtain ⟨i0, hi0, _, hsz, _⟩ := info_parts info5
        have hcg := (Kd.R_reads' KO.out).2.1
        have hCg := (Kd.R_reads' KO.out).2.2
        have hS8 := cut_to (P := Try.prog) 22 5 .i64 Try.underlying22 hi0 A1 gd.length c1 8 (by omega) (by omega) hcg
        have hM := cut_mid (P := Try.prog) 22 5 .i64 .i64 Try.underlying22 hi0 1 hsz A1 gd.length c1 8 16 (by omega) (by omega) (by omega) hcg
        have hF := cut_from (P := Try.prog) 22 5 .i64 Try.underlying22 hi0 1 hsz A1 gd.length c1 16 (by omega) (by omega)
        have hC8 := Kd.C_take (m := 8) hCg (by omega)
        have hCM := Kd.C_mid (lo := 8) (hi := 16) (c := c1) hCg (by omega) (by omega) hcg
        have hCF := Kd.C_drop (m := 16) (c := c1) hCg (by omega) hcg
        have l8 : (gd.take 8).length = 8 := by simp; omega
        have lM : ((gd.take 16).drop 8).length = 8 := by simp; omega
        have lF : (gd.drop 16).length = gd.length - 16 := by simp
        obtain ⟨AM, hAM⟩ : ∃ B : Option Addr, (if c1 = Int.toNat 8 then A1 else A1.map (·.add (Int.toNat 8 * 1))) = B := ⟨_, rfl⟩
        obtain ⟨AF, hAF⟩ : ∃ B : Option Addr, (if c1 = Int.toNat 16 then A1 else A1.map (·.add (Int.toNat 16 * 1))) = B := ⟨_, rfl⟩
        obtain ⟨cM, hcM⟩ : ∃ c, c1 - Int.toNat 8 = c := ⟨_, rfl⟩
        obtain ⟨cF, hcF⟩ : ∃ c, c1 - Int.toNat 16 = c := ⟨_, rfl⟩
        rw [hAM, hcM, show Int.toNat 16 - Int.toNat 8 = 8 from rfl] at hM
        rw [hAF, hcF, show Int.toNat 16 = 16 from rfl, ← lF] at hF
        rw [show Int.toNat 8 = 8 from rfl] at hS8
        replace hCM : Kd.C (Kd.int .u8) w2 AM ((gd.take 16).drop 8).length ((gd.take 16).drop 8) := by rw [← hAM]; exact hCM
        replace hCF : Kd.C (Kd.int .u8) w2 AF (gd.drop 16).length (gd.drop 16) := by rw [← hAF]; exact hCF
        have e8 : Int.toNat 8 = 8 := rfl
        have e16 : Int.toNat 16 = 16 := rfl
        obtain ⟨E, hE⟩ : ∃ E, gd.drop 16 = E := ⟨_, rfl⟩
        rw [hE] at hF hCF lF hh
        have hn1 : ∀ W : World, Below w2.heap.size w2 W → Calls Try.prog 49 #[.slice A1 8 c1] W fun e w' => e = .returned (.int .u64 x) ∧ Drawn0 W w' := by
          intro W hW
          have := fanlightref03_Number.calls k A1 c1 _ x W (Kd.C_below hC8 hW) (by omega) hx8
          rwa [l8] at this
        have hn2 : ∀ W : World, Below w2.heap.size w2 W → Calls Try.prog 49 #[.slice AM 8 cM] W fun e w' => e = .returned (.int .u64 y) ∧ Drawn0 W w' := by
          intro W hW
          have := fanlightref03_Number.calls k AM cM _ y W (Kd.C_below hCM hW) (by omega) hy8
          rwa [lM] at this
        have HN1 := Aside0.mk hn1
        have HN2 := Aside0.mk hn2
        have HCF := Aside0.mk hCF
        have HLF := Aside0.mk lF
        have HHH := Aside0.mk hh
        have hcFF : E.length ≤ cF := by omega
        have HCFF := Aside0.mk hcFF
        clear hE hn1 hn2 hC8 hCM hCF hCg hcg l8 lM lF hx8 hy8 hi0 hsz hAM hAF hcM hcF e8 e16 hh HH hcFF
        go_wp2_with fail
        (try rw [hb4])
        (try rw [hw2])
        go_region_held3 (fun w' => w'.cell? ⟨b4, 1, none⟩ = some (.slice A1 gd.length c1)) (first | exact pw_cell_below HBB.out x1 | exact pw_cell_below HBA.out x1 | exact x1 | go_keep) ((first | (go_at_call 49; (with_reducible refine (HN1.out _ ?side1).mono ?_); (case side1 => exact below_drew1 (Below.refl _ _)); rintro e wA ⟨rfl, hdA⟩; have HBA := Aside0.mk ((below_drew1 (Below.refl w2.heap.size w2)).trans (hdA.below.mono (by simp))); clear hdA) | (go_at_call 49; (with_reducible refine (HN2.out _ HBA.out).mono ?_); rintro e wB ⟨rfl, hdB⟩; have HBB := Aside0.mk (HBA.out.trans (hdB.below.mono HBA.out.size)); clear hdB)))
        have XB2 := Aside0.mk ((HBB.out.block _ (blk_lt K2.out)).trans K2.out)
        have XB4 := Aside0.mk ((HBB.out.block _ (blk_lt K4.out)).trans K4.out)
        have XKB := Aside0.mk (KB.out.trans (HBB.out.mono KB.out.size))
        have XCF := Aside0.mk (Kd.C_below HCF.out HBB.out)
        clear x0 x1 y0 y1 y2 yf HN1 HN2 HBA HCF K2 K4 KO KB hS8 hM HBB hw2 hb4
        have x1 : wB.cell? ⟨b4, 1, none⟩ = some (.slice A1 gd.length c1) := blk_cell XB4.out 1
        have y0 : wB.cell? ⟨w.heap.size, 0, none⟩ = some (.int .i64 0) := blk_cell XB2.out 0
        have y1 : wB.cell? ⟨w.heap.size, 1, none⟩ = some (.int .i64 0) := blk_cell XB2.out 1
        have y2 : wB.cell? ⟨w.heap.size, 2, none⟩ = some (.slice none 0 0) := blk_cell XB2.out 2
        have yf : ∀ i, wB.frozen? ⟨w.heap.size, i, none⟩ = false := fun i => by simp [World.frozen?, XB2.out]
        have hh := HHH.out
        by_cases hxy : x > 1099511627776 ∨ y > 1099511627776
        · rw [if_pos hxy] at hh
          injection hh with hh
          injection hh with e1 e2
          injection e2 with e2 e3
          injection e3 with e3 e4
          subst e1 e2 e3 e4
          clear HHH
          by_cases hx1 : 1099511627776 < x
          · have d1 : decide (1099511627776 < x) = true := decide_eq_true hx1
            go_wp2_with fail
            exact bodyPost_ret (results_ct rfl _ _ w.heap.size 24 #[.int .i64 0, .int .i64 0, .slice none 0 0] (0, 0) _ rfl (blk_put (blk_put (blk_put XB2.out 0 _ rfl) 1 _ rfl) 2 _ rfl) Try.underlying24 rfl (by kernel_rfl)) rfl ⟨_, rfl, Kd.R_nil _ _ _ _ _, (((XKB.out.setCell (p := ⟨w.heap.size, 0, none⟩) (Nat.le_refl _) _).setCell (p := ⟨w.heap.size, 1, none⟩) (Nat.le_refl _) _).setCell (p := ⟨w.heap.size, 2, none⟩) (Nat.le_refl _) _)⟩
          · have d1 : decide (1099511627776 < x) = false := decide_eq_false hx1
            have d2 : decide (1099511627776 < y) = true := decide_eq_true (by omega)
            go_wp2_with fail
            exact bodyPost_ret (results_ct rfl _ _ w.heap.size 24 #[.int .i64 0, .int .i64 0, .slice none 0 0] (0, 0) _ rfl (blk_put (blk_put (blk_put XB2.out 0 _ rfl) 1 _ rfl) 2 _ rfl) Try.underlying24 rfl (by kernel_rfl)) rfl ⟨_, rfl, Kd.R_nil _ _ _ _ _, (((XKB.out.setCell (p := ⟨w.heap.size, 0, none⟩) (Nat.le_refl _) _).setCell (p := ⟨w.heap.size, 1, none⟩) (Nat.le_refl _) _).setCell (p := ⟨w.heap.size, 2, none⟩) (Nat.le_refl _) _)⟩
        · rw [if_neg hxy] at hh
          have d1 : decide (1099511627776 < x) = false := decide_eq_false (by omega)
          have d2 : decide (1099511627776 < y) = false := decide_eq_false (by omega)
          obtain ⟨d, hd, hh⟩ := Option.bind_eq_some_iff.mp hh
          obtain ⟨cc, hcc, hh⟩ := Option.bind_eq_some_iff.mp hh
          have HD := Aside0.mk hd
          have HCC := Aside0.mk hcc
          have HH5 := Aside0.mk hh
          clear hd hcc hh HHH
          go_wp2_with fail
          (with_reducible refine (fanlightref04_Copied.calls AF cF _ d wB XCF.out HCFF.out HD.out).mono ?_)
          rintro e w3 ⟨v3, rfl, ho3, hb3⟩
          obtain ⟨A3, c3, rfl⟩ := Kd.R_slice ho3
          have L2 := Aside0.mk ((hb3.block _ (blk_lt XB2.out)).trans XB2.out)
          have LO := Aside0.mk (Kd.R_lower ho3 XKB.out.size)
          have LB := Aside0.mk (XKB.out.trans (hb3.mono XKB.out.size))
          clear x1 y0 y1 y2 yf ho3 hb3 XB2 XB4 XKB XCF hF
          go_wp2_with fail
          have M2 := Aside0.mk ((Below.heap_alloc w3 (.cells #[.int .i64 (wrap64 x), .int .i64 (wrap64 y), .slice A3 d.length c3] 24) _ (blk_lt L2.out)).trans L2.out)
          have M9 := Aside0.mk (World.alloc_heap_new w3 (.cells #[.int .i64 (wrap64 x), .int .i64 (wrap64 y), .slice A3 d.length c3] 24))
          have MO := Aside0.mk (Kd.R_alloc LO.out (.cells #[.int .i64 (wrap64 x), .int .i64 (wrap64 y), .slice A3 d.length c3] 24))
          have MB := Aside0.mk (below_alloc LB.out (.cells #[.int .i64 (wrap64 x), .int .i64 (wrap64 y), .slice A3 d.length c3] 24))
          have hb9 : w.heap.size < w3.heap.size := blk_lt L2.out
          obtain ⟨b9, e9⟩ : ∃ b, w3.heap.size = b := ⟨_, rfl⟩
          rw [e9] at M9 hb9 ⊢
          generalize w3.alloc (.cells #[.int .i64 (wrap64 x), .int .i64 (wrap64 y), .slice A3 d.length c3] 24) = w4 at M2 M9 MO MB ⊢
          clear L2 LO LB e9
          (with_reducible refine (fanlightref07_Check.calls k (wrap64 x) (wrap64 y) A3 c3 d cc w4 (Kd.R_reads' MO.out).2.2 (Kd.R_reads' MO.out).2.1 HCC.out).mono ?_)
          rintro e w5 ⟨rfl, hb5⟩
          have N2 := Aside0.mk ((hb5.block _ (blk_lt M2.out)).trans M2.out)
          have N9 := Aside0.mk ((hb5.block _ (blk_lt M9.out)).trans M9.out)
          have NO := Aside0.mk (Kd.R_below MO.out hb5)
          have NB := Aside0.mk (MB.out.trans (hb5.mono MB.out.size))
          clear M2 M9 MO MB hb5
          have n0 : w5.cell? ⟨b9, 0, none⟩ = some (.int .i64 (wrap64 x)) := blk_cell N9.out 0
          have n1 : w5.cell? ⟨b9, 1, none⟩ = some (.int .i64 (wrap64 y)) := blk_cell N9.out 1
          have n2 : w5.cell? ⟨b9, 2, none⟩ = some (.slice A3 d.length c3) := blk_cell N9.out 2
          have y0 : w5.cell? ⟨w.heap.size, 0, none⟩ = some (.int .i64 0) := blk_cell N2.out 0
          have y1 : w5.cell? ⟨w.heap.size, 1, none⟩ = some (.int .i64 0) := blk_cell N2.out 1
          have y2 : w5.cell? ⟨w.heap.size, 2, none⟩ = some (.slice none 0 0) := blk_cell N2.out 2
          have yf : ∀ i, w5.frozen? ⟨w.heap.size, i, none⟩ = false := fun i => by simp [World.frozen?, N2.out]
          have hh := HH5.out
          by_cases hc0' : cc = 0
          · subst hc0'
            rw [if_pos rfl] at hh
            by_cases hg0 : 0 ≤ gn
            · rw [if_pos hg0] at hh
              obtain ⟨m, rfl⟩ := Int.eq_ofNat_of_zero_le hg0
              rw [Int.toNat_natCast] at hh
              have HT := Aside0.mk hh
              clear hh HH5 HCC hg0
              go_wp2_with fail
              go_loop [10] (fun j => ∃ p : Nat, m ≤ p ∧ j = .int .i64 (p : Int) ∧ Aside0 (∀ q : Nat, m ≤ q → q < p → rd l0 (q : Int) = 0)) (fun j => 8160 - (intOf j).toNat)
              case atStart => exact ⟨m, Nat.le_refl _, rfl, ⟨fun q h1 h2 => absurd h1 (by omega)⟩⟩
              case round =>
                obtain ⟨p, hmp, rfl, HZ⟩ := hrel
                have hlen := HL.out
                by_cases hp : p < 8160
                · obtain ⟨ad', ea, hcell⟩ := Kd.at_int HR.out (p : Int) (by omega) (by omega)
                  injection ea with ea
                  subst ea
                  rw [Int.toNat_natCast] at hcell
                  replace hcell := (NB.out.cell (p := ad.add p) (World.block_lt_of_cell? w _ hcell)).trans hcell
                  obtain ⟨z, hz⟩ : ∃ z, rd l0 (p : Int) = z := ⟨_, rfl⟩
                  rw [hz] at hcell
                  have HZP := Lib.hid hz
                  have hpl : (p : Int) < (l0.length : Int) := by omega
                  clear hz hlen
                  by_cases hz0 : z = 0
                  · subst hz0
                    go_wp2_with fail
                    go_round
                    case rel => exact ⟨p + 1, by omega, by go_num, ⟨fun q h1 h2 => by
                      rcases Nat.lt_or_ge q p with h3 | h3
                      · exact HZ.out q h1 h3
                      · obtain rfl : q = p := by omega
                        exact HZP.out⟩⟩
                    case measure => simp [intOf]; omega
                  · have hz1 : (z != 0) = true := bne_iff_ne.mpr hz0
                    have hf : tailZero l0 m = false := by
                      unfold tailZero
                      rw [List.all_eq_false]
                      refine ⟨z, ?_, by simpa using hz0⟩
                      rw [← HZP.out]
                      unfold rd
                      rw [Int.toNat_natCast, List.getD_eq_getElem?_getD, List.getElem?_eq_getElem (show p < l0.length by have := HL.out; omega)]
                      rw [List.mem_drop_iff_getElem]
                      exact ⟨p - m, by have := HL.out; omega, by simp; congr 1; omega⟩
                    have hh := HT.out
                    rw [hf, if_neg (by decide)] at hh
                    injection hh with hh
                    injection hh with e1 e2
                    injection e2 with e2 e3
                    injection e3 with e3 e4
                    subst e1 e2 e3 e4
                    clear HT hf
                    go_wp2_with fail
                    exact bodyPost_ret (results_ct rfl _ _ w.heap.size 24 #[.int .i64 0, .int .i64 0, .slice none 0 0] (0, 0) _ rfl (blk_put (blk_put (blk_put N2.out 0 _ rfl) 1 _ rfl) 2 _ rfl) Try.underlying24 rfl (by kernel_rfl)) rfl ⟨_, rfl, Kd.R_nil _ _ _ _ _, (((NB.out.setCell (p := ⟨w.heap.size, 0, none⟩) (Nat.le_refl _) _).setCell (p := ⟨w.heap.size, 1, none⟩) (Nat.le_refl _) _).setCell (p := ⟨w.heap.size, 2, none⟩) (Nat.le_refl _) _)⟩
                · have hf : tailZero l0 m = true := by
                    unfold tailZero
                    rw [List.all_eq_true]
                    intro v hv
                    obtain ⟨q, hq, rfl⟩ := List.getElem_of_mem hv
                    rw [List.length_drop] at hq
                    have := HZ.out (m + q) (by omega) (by omega)
                    unfold rd at this
                    rw [Int.toNat_natCast, List.getD_eq_getElem?_getD, List.getElem?_eq_getElem (show m + q < l0.length by omega)] at this
                    rw [List.getElem_drop]
                    simpa using this
                  have hh := HT.out
                  rw [hf, if_pos rfl] at hh
                  injection hh with hh
                  injection hh with e1 e2
                  injection e2 with e2 e3
                  injection e3 with e3 e4
                  subst e1 e2 e3 e4
                  clear HT hf hlen
                  go_wp2_with fail
                  have k1 := blk_put N2.out 0 (.int .i64 (wrap64 x)) rfl
                  have k2 := blk_put k1 1 (.int .i64 (wrap64 y)) rfl
                  exact bodyPost_ret (results_ct rfl _ _ w.heap.size 24 #[.int .i64 (wrap64 x), .int .i64 (wrap64 y), .slice A3 d.length c3] (0, 0) _ rfl (blk_put k2 2 _ rfl) Try.underlying24 rfl (by kernel_rfl)) rfl ⟨_, rfl, Kd.R_set (Kd.R_set (Kd.R_set NO.out N2.out (by decide) 0 _) k1 (by decide) 1 _) k2 (by decide) 2 _, (((NB.out.setCell (p := ⟨w.heap.size, 0, none⟩) (Nat.le_refl _) _).setCell (p := ⟨w.heap.size, 1, none⟩) (Nat.le_refl _) _).setCell (p := ⟨w.heap.size, 2, none⟩) (Nat.le_refl _) _)⟩
            · rw [if_neg hg0] at hh
              cases hh
          · rw [if_neg hc0'] at hh
            injection hh with hh
            injection hh with e1 e2
            injection e2 with e2 e3
            injection e3 with e3 e4
            subst e1 e2 e3 e4
            have hc1 : (cc != 0) = true := bne_iff_ne.mpr hc0'
            clear HH5 HCC
            go_wp2_with fail
            exact bodyPost_ret (results_ct rfl _ _ w.heap.size 24 #[.int .i64 0, .int .i64 0, .slice none 0 0] (0, 0) _ rfl (blk_put (blk_put (blk_put N2.out 0 _ rfl) 1 _ rfl) 2 _ rfl) Try.underlying24 rfl (by kernel_rfl)) rfl ⟨_, rfl, Kd.R_nil _ _ _ _ _, (((NB.out.setCell (p := ⟨w.heap.size, 0, none⟩) (Nat.le_refl _) _).setCell (p := ⟨w.heap.size, 1, none⟩) (Nat.le_refl _) _).setCell (p := ⟨w.heap.size, 2, none⟩) (Nat.le_refl _) _)⟩
    · rw [if_neg hk] at hh
      injection hh with hh
      injection hh with e1 e2
      injection e2 with e2 e3
      injection e3 with e3 e4
      subst e1 e2 e3 e4
      have hk1 : (gk != 3) = true := bne_iff_ne.mpr hk
      clear HH
      go_wp2_with fail
      exact bodyPost_ret (results_ct rfl _ _ w.heap.size 24 #[.int .i64 0, .int .i64 0, .slice none 0 0] (0, 0) _ rfl (blk_put (blk_put (blk_put K2.out 0 _ rfl) 1 _ rfl) 2 _ rfl) Try.underlying24 rfl (by kernel_rfl)) rfl ⟨_, rfl, Kd.R_nil _ _ _ _ _, (((KB.out.setCell (p := ⟨w.heap.size, 0, none⟩) (Nat.le_refl _) _).setCell (p := ⟨w.heap.size, 1, none⟩) (Nat.le_refl _) _).setCell (p := ⟨w.heap.size, 2, none⟩) (Nat.le_refl _) _)⟩
  · have hh := HH.out
    rw [if_neg hx] at hh
    injection hh with hh
    injection hh with e1 e2
    injection e2 with e2 e3
    injection e3 with e3 e4
    subst e1 e2 e3 e4
    have hx1 : (gx != 0) = true := bne_iff_ne.mpr hx
    clear HH
    go_wp2_with fail
    exact bodyPost_ret (results_ct rfl _ _ w.heap.size 24 #[.int .i64 0, .int .i64 0, .slice none 0 0] (0, 0) _ rfl (blk_put (blk_put (blk_put K2.out 0 _ rfl) 1 _ rfl) 2 _ rfl) Try.underlying24 rfl (by kernel_rfl)) rfl ⟨_, rfl, Kd.R_nil _ _ _ _ _, (((KB.out.setCell (p := ⟨w.heap.size, 0, none⟩) (Nat.le_refl _) _).setCell (p := ⟨w.heap.size, 1, none⟩) (Nat.le_refl _) _).setCell (p := ⟨w.heap.size, 2, none⟩) (Nat.le_refl _) _)⟩
theorem fanlightref07_Decode.calls (k : Nat) (A0 : Option Addr) (c0 : Nat) (l0 : List Int) (r1 : Int) (r2 : Int) (r3 : List Int) (r4 : Int) (w : World) (hr0 : Kd.C (Kd.int .u8) w A0 l0.length l0) (hc0 : l0.length ≤ c0) (h : fanlightref07_Decode.f k l0 = some (r1, r2, r3, r4)) :
    Calls Try.prog 18 #[.slice A0 l0.length c0] w fun e w' => ∃ v2_ : Value, e = .returned (.tuple #[.agg #[.int .i64 r1, .int .i64 r2, v2_], .int .i64 r4]) ∧ Kd.R (Kd.int .u8) 5 w' w.heap.size (fun _ => True) v2_ r3 ∧ Below w.heap.size w w' := by
  unfold fanlightref07_Decode.f at h
  by_cases hl : l0.length = 8160
  · rw [if_pos hl] at h
    obtain ⟨g, hg, h⟩ := Option.bind_eq_some_iff.mp h
    obtain ⟨ad, e, _⟩ := Kd.at_int hr0 0 (by omega) (by omega)
    subst e
    exact refdec1 k ad c0 l0 g (r1, r2, r3, r4) w hr0 hc0 hl hg h
  · rw [if_neg hl] at h
    injection h with h
    injection h with e1 e2
    injection e2 with e2 e3
    injection e3 with e3 e4
    subst e1 e2 e3 e4
    exact refdec_count A0 c0 l0 w hl
end Go.Proofs.Ytkdaeleolomdkaa.V
