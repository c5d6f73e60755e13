import Derived.Test.YtgmkgobapeencaaYS2
import Derived.Test.YtgmkgobapeencaaYAid3
set_option maxHeartbeats 8000000
set_option maxRecDepth 100000
namespace Go.Proofs.Ytgmkgobapeencaa.S
open Go.Proofs.YtgmkgobapeencaaW.PrintWords renaming below_size → a', blk_frozen → b', below_step → c'
open Go.Proofs.YtgmkgobapeencaaW.PrintWords.Aside0 renaming mk → d'
open Go.RowKit Go.Proofs.YtgmkgobapeencaaW.PrintWords Go.Proofs.YtgmkgobapeencaaW.PrintLast Go.Proofs.YtgmkgobapeencaaW.PrintMore
attribute [local go_sem] max2_int min2_int max_two min_two max_three min_three max_four min_four   -- for this text's walks alone
set_option linter.unusedVariables false
set_option linter.unusedSimpArgs false
def wal_get.l0 : Nat → Int → List Int → Int → Int → Option (Int)
 | 0, _, _, _, _ => none
 | k + 1, x3, x7, x8, x9 => if x9 < x8 then (if 0 ≤ x9 then (if x9 < (x7.length : Int) then (wal_get.l0 k (Go.bits .or .u64 (IntKind.u64.wrap (x3 * 256)) (IntKind.u64.wrap (rd x7 x9))) x7 x8 (wrap64 (x9 + 1))) else (none)) else (none)) else (some x3)
def wal_get.f (k : Nat) (l0 : List Int) : Option (Int) := if 8 ≤ (l0.length : Int) then ((some (l0.take 8 : List Int)).bind fun y109 => (wal_get.l0 k 0 y109 (y109.length : Int) 0)) else (none)
theorem wal_get.mono_l : ∀ k, (∀ y0 y1 y2 y3, LeO (wal_get.l0 k y0 y1 y2 y3) (wal_get.l0 (k + 1) y0 y1 y2 y3))
 | 0 => fun _ _ _ _ r h => by simp [wal_get.l0] at h
 | k + 1 => by
  have ih0 := wal_get.mono_l k
  ·
   intro y0 y1 y2 y3
   unfold wal_get.l0
   repeat' first
   | (with_reducible exact ih0 _ _ _ _)
   | with_reducible first | exact LeO.refl _ | exact LeO.none _ | refine LeO.ite ?_ ?_ | refine LeO.bind ?_ fun _ => ?_
theorem wal_get.mono : ∀ a0 k, LeO (wal_get.f k a0) (wal_get.f (k + 1) a0) := by
 intro a0 k
 have ih0 := wal_get.mono_l k
 unfold wal_get.f
 repeat' first
   | (with_reducible exact ih0 _ _ _ _)
   | with_reducible first | exact LeO.refl _ | exact LeO.none _ | refine LeO.ite ?_ ?_ | refine LeO.bind ?_ fun _ => ?_
theorem wal_get.calls (k : Nat) (A0 : Option Addr) (c0 : Nat) (l0 : List Int) (r : Int) (w : World) (hr0 : Kd.C (Kd.int .u8) w A0 l0.length l0) (hc0 : l0.length ≤ c0) (h : wal_get.f k l0 = some r) :
  Calls Try.prog 51 #[.slice A0 l0.length c0] w fun e w' => e = .returned (.int .u64 r) ∧ Drawn0 w w' := by
 have HR0 := d' hr0
 have HC0 := d' hc0
 clear hr0 hc0
 have H : (if 8 ≤ (l0.length : Int) then ((some (l0.take 8 : List Int)).bind fun y109 => (wal_get.l0 k 0 y109 (y109.length : Int) 0)) else (none)) = some r := h
 clear h
 by_cases c2 : 8 ≤ (l0.length : Int)
 ·
  rw [if_pos c2] at H
  have c2b0 := eq_true c2
  have c2b1 := decide_eq_true c2
  clear c2
  obtain ⟨y109, hy109⟩ : ∃ y_ : List Int, y_ = (l0.take 8) := ⟨_, rfl⟩
  replace H : (wal_get.l0 k 0 y109 (y109.length : Int) 0) = some r := by rw [hy109]; exact H
  have Ny109 := d' hy109
  clear hy109
  have H' := d' H
  clear H
  have q3 : (8 : Int) ≤ ((l0.length : Int) : Int) := oD
  obtain ⟨i03, hi03, _, hsz3, _⟩ := info_parts info5
  have hroom3 : l0.length ≤ c0 := HC0.out
  have hC3 : Kd.C (Kd.int .u8) _ A0 l0.length l0 := HR0.out
  have hcut3 := cut_to (P := Try.prog) 25 5 .i64 Try.underlying25 hi03 A0 l0.length c0 8 (by omega) q3 hroom3
  have hr3 := Kd.C_take (m := 8) hC3 (by omega)
  have hy3 : y109.length = (8 : Int).toNat := (by rw [Ny109.out, List.length_take]; omega)
  rw [← Ny109.out] at hr3
  rw [← hy3] at hcut3
  have HR112 := d' hr3
  have HC112 := d' (show y109.length ≤ c0 from by omega)
  clear hr3 hC3 hroom3 hi03 hsz3
  have KY3 := d' hy3
  clear hy3
  replace q3 := eq_true q3
  go_enter Try.func51, Try.ntmps51
  go_wp2
  go_loopg [3, 9] k (fun kq v3 v9 w' => ∃ (x3_1 : Int) (x9_1 : Int), v3 = .int .u64 x3_1 ∧ v9 = .int .i64 x9_1 ∧ Aside0 (wal_get.l0 kq x3_1 y109 (y109.length : Int) x9_1 = some r) ∧ Aside0 (kq ≤ k) ∧ Drawn0 w w')
  case atStart => exact ⟨(0), (0), rS, rS, H', ⟨Nat.le_refl _⟩, by repeat (first | exact Drawn0.refl _ | apply Drawn0.step)⟩
  case round =>
   clear H'
   try clear c2
   try clear c2b0
   try clear c2b1
   try clear p2
   try clear q3
   try clear q3
   obtain ⟨x3_1, x9_1, rfl, rfl, HA, HK1, ⟨m1, rfl⟩⟩ := hrel
   cases gk with
   | zero => exact absurd HA.out (by simp [wal_get.l0])
   | succ k1 =>
    have H := HA.out
    clear HA
    simp only [wal_get.l0] at H
    by_cases c4 : x9_1 < (y109.length : Int)
    ·
     rw [if_pos c4] at H
     have c4b0 := decide_eq_true c4
     clear c4
     by_cases c5 : 0 ≤ x9_1
     ·
      rw [if_pos c5] at H
      have c5b0 := decide_eq_true c5
      clear c5
      by_cases c6 : x9_1 < (y109.length : Int)
      ·
       rw [if_pos c6] at H
       have c6b0 := decide_eq_true c6
       clear c6
       have H' := d' H
       clear H
       have p113 : 0 ≤ (x9_1 : Int) := oD
       have q113 : x9_1 < (y109.length : Int) := oD
       obtain ⟨ad113, e113, hx113_0⟩ := Kd.at_int HR112.out x9_1 p113 q113
       cases e113
       replace p113 := eq_true p113
       replace q113 := eq_true q113
       go_wp2
       go_roundg k1
       case measure => have := HK1.out; omega
       case rel => exact ⟨(Go.bits .or .u64 (IntKind.u64.wrap (x3_1 * 256)) (IntKind.u64.wrap (rd y109 x9_1))), (wrap64 (x9_1 + 1)), rS, rS, H', ⟨by have := HK1.out; omega⟩, by repeat (first | exact Drawn0.refl _ | apply Drawn0.step)⟩
      ·
       rw [if_neg c6] at H
       exact absurd H (by simp)
     ·
      rw [if_neg c5] at H
      exact absurd H (by simp)
    ·
     rw [if_neg c4] at H
     have c4b0 := decide_eq_false c4
     clear c4
     obtain rfl := Option.some.inj H
     go_wp2
     go_ret
     exact ⟨by first | rfl | (simp; done) | (simp [*]; done), by repeat (first | exact Drawn0.refl _ | apply Drawn0.step)⟩
 ·
  rw [if_neg c2] at H
  exact absurd H (by simp)
def wal_first.f (k : Nat) (l0 : List Int) : Option (Int) := (seal_Get.f l0).bind fun bt114 => (if bt114.2.2.2 = 0 then (if (bt114.2.1.length : Int) < 8 then (some 0) else ((wal_get.f k bt114.2.1).bind fun t121 => (if t121 > 1099511627776 then (some 0) else ((wal_get.f k bt114.2.1).bind fun t122 => (some (wrap64 (t122))))))) else (some 0))
theorem wal_first.mono : ∀ a0 k, LeO (wal_first.f k a0) (wal_first.f (k + 1) a0) := by
 intro a0 k
 unfold wal_first.f
 repeat' first
   | (with_reducible exact wal_get.mono _ _)
   | with_reducible first | exact LeO.refl _ | exact LeO.none _ | refine LeO.ite ?_ ?_ | refine LeO.bind ?_ fun _ => ?_
theorem wal_first.calls (k : Nat) (A0 : Option Addr) (c0 : Nat) (l0 : List Int) (r : Int) (w : World) (hr0 : Kd.C (Kd.int .u8) w A0 l0.length l0) (hc0 : l0.length ≤ c0) (h : wal_first.f k l0 = some r) :
  Calls Try.prog 35 #[.slice A0 l0.length c0] w fun e w' => e = .returned (.int .i64 r) ∧ Below w.heap.size w w' := by
 have hu67 := Try.underlying67
 have HR0 := d' hr0
 have HC0 := d' hc0
 clear hr0 hc0
 have HB := d' (Below.refl w.heap.size w)
 have H : ((seal_Get.f l0).bind fun bt114 => (if bt114.2.2.2 = 0 then (if (bt114.2.1.length : Int) < 8 then (some 0) else ((wal_get.f k bt114.2.1).bind fun t121 => (if t121 > 1099511627776 then (some 0) else ((wal_get.f k bt114.2.1).bind fun t122 => (some (wrap64 (t122))))))) else (some 0))) = some r := h
 clear h
 replace H := Option.bind_eq_some_iff.mp H
 obtain ⟨⟨t114, t115, t118, t119⟩, A20, H⟩ := H
 (try dsimp only at H)
 have A2 := d' A20
 clear A20
 by_cases c3 : t119 = 0
 ·
  rw [if_pos c3] at H
  have c3b0 := beq_iff_eq.mpr c3
  have c3b1 := bne_eq_false_iff_eq.mpr c3
  clear c3
  by_cases c4 : (t115.length : Int) < 8
  ·
   rw [if_pos c4] at H
   have c4b0 := decide_eq_true c4
   have c4b1 : decide (t115.length < 8) = true := decide_eq_true (by omega)
   clear c4
   obtain rfl := Option.some.inj H
   go_enter Try.func35, Try.ntmps35
   go_wp2_with (first | ((with_reducible refine gate_callee (f := 50) rfl ?_); refine gL 8 Try.func50 #[.slice A0 l0.length c0] (h := ?_); (with_reducible refine (seal_Get.calls _ _ l0 t114 t115 t118 t119 _ ?side1 ?side2 A2.out).mono ?_); (case side1 => exact Kd.cC HR0); (case side2 => exact HC0.out); rintro e w5 ⟨v116, rfl, ho0, hb⟩; refine ⟨_, rfl, ?_⟩; have n0_ := d' (Kd.R_lower ho0 (a' (eH HB))); have n1_ := d' (c' (eH HB) hb); clear HB; have HO117 := n0_; have HB := n1_; clear n0_ n1_; (try clear hb); (try clear hb2); (try clear hk); (try clear hi); (try clear ho0)) | ((with_reducible refine gate_dst (N := 3) rfl ?_); (try (refine gate_guard (by rfl) ?_; dsimp only)); refine box_event ?hg (N := 3) ?hd (cs := #[.int .i64 0, .slice none 0 0]) (t := 67) ?hr ?_; (case hd => rfl); (case hg => rfl); (case hr => go_simp <;> rfl); intro gb120 hg w6 hbox hb; have n0_ := d' (Kd.R_below (Kd.eR HO117) hb); have n1_ := d' (c' (eH HB) hb); have n2_ := d' (hbox); have n3_ := d' ((by rw [hg]; exact (a' (eH HB)) : w.heap.size ≤ gb120)); have n4_ := d' ((by rw [hg]; exact (a' (eH HB)) : w.heap.size ≤ gb120)); clear HO117; clear HB; have HO117 := n0_; have HB := n1_; have BK120 := n2_; have GW120 := n3_; have GE120 := n4_; clear n0_ n1_ n2_ n3_ n4_; clear hb hbox hg; have hcz7_0 := bC BK120 0 (.int .i64 0); have hcz7_1 := bC BK120 1 (.slice none 0 0); have hfz7_0 := b' BK120.out 0; have hfz7_1 := b' BK120.out 1; obtain ⟨Ao8, co8, eo8⟩ := Kd.R_slice HO117.out; subst eo8))
   go_ret
   exact ⟨eE, eH HB⟩
  ·
   rw [if_neg c4] at H
   have c4b0 := decide_eq_false c4
   have c4b1 : decide (t115.length < 8) = false := decide_eq_false (by omega)
   clear c4
   replace H := Option.bind_eq_some_iff.mp H
   obtain ⟨t121, A90, H⟩ := H
   (try dsimp only at H)
   have A9 := d' A90
   clear A90
   by_cases c10 : t121 > 1099511627776
   ·
    rw [if_pos c10] at H
    have c10b0 := decide_eq_true c10
    clear c10
    obtain rfl := Option.some.inj H
    go_enter Try.func35, Try.ntmps35
    go_wp2_with (first | ((with_reducible refine gate_callee (f := 50) rfl ?_); refine gL 8 Try.func50 #[.slice A0 l0.length c0] (h := ?_); (with_reducible refine (seal_Get.calls _ _ l0 t114 t115 t118 t119 _ ?side1 ?side2 A2.out).mono ?_); (case side1 => exact Kd.cC HR0); (case side2 => exact HC0.out); rintro e w11 ⟨v116, rfl, ho0, hb⟩; refine ⟨_, rfl, ?_⟩; have n0_ := d' (Kd.R_lower ho0 (a' (eH HB))); have n1_ := d' (c' (eH HB) hb); clear HB; have HO117 := n0_; have HB := n1_; clear n0_ n1_; (try clear hb); (try clear hb2); (try clear hk); (try clear hi); (try clear ho0)) | ((with_reducible refine gate_dst (N := 3) rfl ?_); (try (refine gate_guard (by rfl) ?_; dsimp only)); refine box_event ?hg (N := 3) ?hd (cs := #[.int .i64 0, .slice none 0 0]) (t := 67) ?hr ?_; (case hd => rfl); (case hg => rfl); (case hr => go_simp <;> rfl); intro gb120 hg w12 hbox hb; have n0_ := d' (Kd.R_below (Kd.eR HO117) hb); have n1_ := d' (c' (eH HB) hb); have n2_ := d' (hbox); have n3_ := d' ((by rw [hg]; exact (a' (eH HB)) : w.heap.size ≤ gb120)); have n4_ := d' ((by rw [hg]; exact (a' (eH HB)) : w.heap.size ≤ gb120)); clear HO117; clear HB; have HO117 := n0_; have HB := n1_; have BK120 := n2_; have GW120 := n3_; have GE120 := n4_; clear n0_ n1_ n2_ n3_ n4_; clear hb hbox hg; have hcz13_0 := bC BK120 0 (.int .i64 0); have hcz13_1 := bC BK120 1 (.slice none 0 0); have hfz13_0 := b' BK120.out 0; have hfz13_1 := b' BK120.out 1; obtain ⟨Ao14, co14, eo14⟩ := Kd.R_slice HO117.out; subst eo14) | (go_at_call 51; (with_reducible refine (wal_get.calls k _ _ t115 t121 _ ?side1 ?side2 A9.out).mono ?_); (case side1 => refine (Kd.R_reads' (e := 5) (base := w.heap.size) (ok := fun k_ => True) (n := t115.length) (c := co14) ?_).2.2; exact (Kd.kR (Kd.R_mono (Kd.R_far (p := ⟨gb120, 1, none⟩) (Kd.R_far (p := ⟨gb120, 0, none⟩) (Kd.R_types HO117.out BK120.out (by decide)) (fun _ hk => hk.2) (.int .i64 t114)) (fun _ hk => hk.2) (.slice Ao14 t115.length co14)) (fun _ h_ => h_.1)))); (case side2 => exact (Kd.R_reads' HO117.out).2.1); rintro e w' ⟨rfl, ⟨nd, rfl⟩⟩))
    go_ret
    exact ⟨eE, eH HB⟩
   ·
    rw [if_neg c10] at H
    have c10b0 := decide_eq_false c10
    clear c10
    replace H := Option.bind_eq_some_iff.mp H
    obtain ⟨t122, A150, H⟩ := H
    (try dsimp only at H)
    have A15 := d' A150
    clear A150
    obtain rfl := Option.some.inj H
    go_enter Try.func35, Try.ntmps35
    go_wp2_with (first | ((with_reducible refine gate_callee (f := 50) rfl ?_); refine gL 8 Try.func50 #[.slice A0 l0.length c0] (h := ?_); (with_reducible refine (seal_Get.calls _ _ l0 t114 t115 t118 t119 _ ?side1 ?side2 A2.out).mono ?_); (case side1 => exact Kd.cC HR0); (case side2 => exact HC0.out); rintro e w16 ⟨v116, rfl, ho0, hb⟩; refine ⟨_, rfl, ?_⟩; have n0_ := d' (Kd.R_lower ho0 (a' (eH HB))); have n1_ := d' (c' (eH HB) hb); clear HB; have HO117 := n0_; have HB := n1_; clear n0_ n1_; (try clear hb); (try clear hb2); (try clear hk); (try clear hi); (try clear ho0)) | ((with_reducible refine gate_dst (N := 3) rfl ?_); (try (refine gate_guard (by rfl) ?_; dsimp only)); refine box_event ?hg (N := 3) ?hd (cs := #[.int .i64 0, .slice none 0 0]) (t := 67) ?hr ?_; (case hd => rfl); (case hg => rfl); (case hr => go_simp <;> rfl); intro gb120 hg w17 hbox hb; have n0_ := d' (Kd.R_below (Kd.eR HO117) hb); have n1_ := d' (c' (eH HB) hb); have n2_ := d' (hbox); have n3_ := d' ((by rw [hg]; exact (a' (eH HB)) : w.heap.size ≤ gb120)); have n4_ := d' ((by rw [hg]; exact (a' (eH HB)) : w.heap.size ≤ gb120)); clear HO117; clear HB; have HO117 := n0_; have HB := n1_; have BK120 := n2_; have GW120 := n3_; have GE120 := n4_; clear n0_ n1_ n2_ n3_ n4_; clear hb hbox hg; have hcz18_0 := bC BK120 0 (.int .i64 0); have hcz18_1 := bC BK120 1 (.slice none 0 0); have hfz18_0 := b' BK120.out 0; have hfz18_1 := b' BK120.out 1; obtain ⟨Ao19, co19, eo19⟩ := Kd.R_slice HO117.out; subst eo19) | (go_at_call 51; (with_reducible refine (wal_get.calls k _ _ t115 t121 _ ?side1 ?side2 A9.out).mono ?_); (case side1 => refine (Kd.R_reads' (e := 5) (base := w.heap.size) (ok := fun k_ => True) (n := t115.length) (c := co19) ?_).2.2; exact (Kd.kR (Kd.R_mono (Kd.R_far (p := ⟨gb120, 1, none⟩) (Kd.R_far (p := ⟨gb120, 0, none⟩) (Kd.R_types HO117.out BK120.out (by decide)) (fun _ hk => hk.2) (.int .i64 t114)) (fun _ hk => hk.2) (.slice Ao19 t115.length co19)) (fun _ h_ => h_.1)))); (case side2 => exact (Kd.R_reads' HO117.out).2.1); rintro e w' ⟨rfl, ⟨nd, rfl⟩⟩) | ((with_reducible refine gate_callee (f := 51) rfl ?_); refine gL 28 Try.func51 #[.slice Ao19 t115.length co19] (h := ?_); (with_reducible refine (wal_get.calls k _ _ t115 t122 _ ?side1 ?side2 A15.out).mono ?_); (case side1 => refine (Kd.R_reads' (e := 5) (base := w.heap.size) (ok := fun k_ => True) (n := t115.length) (c := co19) ?_).2.2; exact (Kd.kR (Kd.R_mono (Kd.R_far (p := ⟨gb120, 1, none⟩) (Kd.R_far (p := ⟨gb120, 0, none⟩) (Kd.R_types HO117.out BK120.out (by decide)) (fun _ hk => hk.2) (.int .i64 t114)) (fun _ hk => hk.2) (.slice Ao19 t115.length co19)) (fun _ h_ => h_.1)))); (case side2 => exact (Kd.R_reads' HO117.out).2.1); rintro e w' ⟨rfl, ⟨nd, rfl⟩⟩; refine ⟨_, rfl, ?_⟩))
    go_ret
    exact ⟨eE, eH HB⟩
 ·
  rw [if_neg c3] at H
  have c3b0 := beq_eq_false_iff_ne.mpr c3
  have c3b1 := bne_iff_ne.mpr c3
  obtain rfl := Option.some.inj H
  go_enter Try.func35, Try.ntmps35
  go_wp2_with (first | ((with_reducible refine gate_callee (f := 50) rfl ?_); refine gL 8 Try.func50 #[.slice A0 l0.length c0] (h := ?_); (with_reducible refine (seal_Get.calls _ _ l0 t114 t115 t118 t119 _ ?side1 ?side2 A2.out).mono ?_); (case side1 => exact Kd.cC HR0); (case side2 => exact HC0.out); rintro e w20 ⟨v116, rfl, ho0, hb⟩; refine ⟨_, rfl, ?_⟩; have n0_ := d' (Kd.R_lower ho0 (a' (eH HB))); have n1_ := d' (c' (eH HB) hb); clear HB; have HO117 := n0_; have HB := n1_; clear n0_ n1_; (try clear hb); (try clear hb2); (try clear hk); (try clear hi); (try clear ho0)) | ((with_reducible refine gate_dst (N := 3) rfl ?_); (try (refine gate_guard (by rfl) ?_; dsimp only)); refine box_event ?hg (N := 3) ?hd (cs := #[.int .i64 0, .slice none 0 0]) (t := 67) ?hr ?_; (case hd => rfl); (case hg => rfl); (case hr => go_simp <;> rfl); intro gb120 hg w21 hbox hb; have n0_ := d' (Kd.R_below (Kd.eR HO117) hb); have n1_ := d' (c' (eH HB) hb); have n2_ := d' (hbox); have n3_ := d' ((by rw [hg]; exact (a' (eH HB)) : w.heap.size ≤ gb120)); have n4_ := d' ((by rw [hg]; exact (a' (eH HB)) : w.heap.size ≤ gb120)); clear HO117; clear HB; have HO117 := n0_; have HB := n1_; have BK120 := n2_; have GW120 := n3_; have GE120 := n4_; clear n0_ n1_ n2_ n3_ n4_; clear hb hbox hg; have hcz22_0 := bC BK120 0 (.int .i64 0); have hcz22_1 := bC BK120 1 (.slice none 0 0); have hfz22_0 := b' BK120.out 0; have hfz22_1 := b' BK120.out 1; obtain ⟨Ao23, co23, eo23⟩ := Kd.R_slice HO117.out; subst eo23))
  go_ret
  exact ⟨eE, eH HB⟩
def wal_Scan.l0 : Nat → List Int → Int → List (S60) → Int → Option ((List (S60)) × Int)
 | 0, _, _, _, _ => none
 | k + 1, x0, x1, x4, x5 => if 0 ≤ x5 then (if x5 ≤ (x0.length : Int) then ((seal_Get.f (x0.drop (x5 : Int).toNat)).bind fun bt127 => (if bt127.2.2.2 = 0 then (if bt127.1 = 2 then (if (bt127.2.1.length : Int) < 8 then (some (x4, x5)) else (if (bt127.2.1.length : Int) > 408 then (some (x4, x5)) else (if x1 < 0 then (some (x4, x5)) else ((wal_get.f k bt127.2.1).bind fun t134 => (if t134 = (IntKind.u64.wrap (x1)) then (if 8 ≤ (bt127.2.1.length : Int) then ((bytes_Clone.f (bt127.2.1.drop 8)).bind fun t139 => (if x4.length < 4398046511104 then (wal_Scan.l0 k x0 (wrap64 (x1 + 1)) (x4 ++ [(⟨x1, t139⟩ : S60)]) (wrap64 (x5 + bt127.2.2.1))) else (none))) else (none)) else (some (x4, x5))))))) else (some (x4, x5))) else (some (x4, x5)))) else (none)) else (none)
def wal_Scan.f (k : Nat) (l0 : List Int) (a1 : Int) : Option ((List (S60)) × Int) := wal_Scan.l0 k l0 a1 ([] : List (S60)) 0
theorem wal_Scan.mono_l : ∀ k, (∀ y0 y1 y2 y3, LeO (wal_Scan.l0 k y0 y1 y2 y3) (wal_Scan.l0 (k + 1) y0 y1 y2 y3))
 | 0 => fun _ _ _ _ r h => by simp [wal_Scan.l0] at h
 | k + 1 => by
  have ih0 := wal_Scan.mono_l k
  ·
   intro y0 y1 y2 y3
   unfold wal_Scan.l0
   repeat' first
   | (with_reducible exact ih0 _ _ _ _)
   | (with_reducible exact wal_get.mono _ _)
   | with_reducible first | exact LeO.refl _ | exact LeO.none _ | refine LeO.ite ?_ ?_ | refine LeO.bind ?_ fun _ => ?_
theorem wal_Scan.mono : ∀ a0 a1 k, LeO (wal_Scan.f k a0 a1) (wal_Scan.f (k + 1) a0 a1) := by
 intro a0 a1 k
 have ih0 := wal_Scan.mono_l k
 unfold wal_Scan.f
 repeat' first
   | (with_reducible exact ih0 _ _ _ _)
   | (with_reducible exact wal_get.mono _ _)
   | with_reducible first | exact LeO.refl _ | exact LeO.none _ | refine LeO.ite ?_ ?_ | refine LeO.bind ?_ fun _ => ?_
theorem wal_Scan.calls (k : Nat) (A0 : Option Addr) (c0 : Nat) (l0 : List Int) (a1 : Int) (r1 : List (S60)) (r2 : Int) (w : World) (hr0 : Kd.C (Kd.int .u8) w A0 l0.length l0) (hc0 : l0.length ≤ c0) (h : wal_Scan.f k l0 a1 = some (r1, r2)) :
  Calls Try.prog 36 #[.slice A0 l0.length c0, .int .i64 a1] w fun e w' => ∃ v0_ : Value, e = .returned (.tuple #[v0_, .int .i64 r2]) ∧ Kd.S k60 60 w' w.heap.size (fun _ => True) v0_ r1 ∧ Below w.heap.size w w' := by
 have hu67 := Try.underlying67
 have hu60 := Try.underlying60
 have HR0 := d' hr0
 have HC0 := d' hc0
 clear hr0 hc0
 have HB := d' (Below.refl w.heap.size w)
 have H : (wal_Scan.l0 k l0 a1 ([] : List (S60)) 0) = some (r1, r2) := h
 clear h
 have H' := d' H
 clear H
 go_enter Try.func36, Try.ntmps36
 go_wp2
 go_loopg [1, 4, 5] k (fun kq v1 v4 v5 w' => ∃ (x1_1 : Int) (x4_1 : List (S60)) (x5_1 : Int), v1 = .int .i64 x1_1 ∧ v5 = .int .i64 x5_1 ∧ Aside0 (wal_Scan.l0 kq l0 x1_1 x4_1 x5_1 = some (r1, r2)) ∧ Aside0 (kq ≤ k) ∧ Aside0 (Kd.S k60 60 w' w.heap.size (fun _ => True) v4 x4_1) ∧ Aside0 (Below w.heap.size w w'))
 case atStart => exact ⟨(a1), (([] : List (S60))), (0), rS, rS, H', ⟨Nat.le_refl _⟩, ⟨nS⟩, ⟨eH HB⟩⟩
 case round =>
  clear H'
  try clear p2
  obtain ⟨x1_1, x4_1, x5_1, rfl, rfl, HA, HK1, HO_4, HB⟩ := hrel
  cases gk with
  | zero => exact absurd HA.out (by simp [wal_Scan.l0])
  | succ k1 =>
   have H := HA.out
   clear HA
   simp only [wal_Scan.l0] at H
   by_cases c3 : 0 ≤ x5_1
   ·
    rw [if_pos c3] at H
    have c3b0 := eq_true c3
    have c3b1 := decide_eq_true c3
    clear c3
    by_cases c4 : x5_1 ≤ (l0.length : Int)
    ·
     rw [if_pos c4] at H
     have c4b0 := eq_true c4
     have c4b1 := decide_eq_true c4
     clear c4
     obtain ⟨y123, hy123⟩ : ∃ y_ : List Int, y_ = (l0.drop (x5_1 : Int).toNat) := ⟨_, rfl⟩
     replace H : ((seal_Get.f y123).bind fun bt127 => (if bt127.2.2.2 = 0 then (if bt127.1 = 2 then (if (bt127.2.1.length : Int) < 8 then (some (x4_1, x5_1)) else (if (bt127.2.1.length : Int) > 408 then (some (x4_1, x5_1)) else (if x1_1 < 0 then (some (x4_1, x5_1)) else ((wal_get.f k1 bt127.2.1).bind fun t134 => (if t134 = (IntKind.u64.wrap (x1_1)) then (if 8 ≤ (bt127.2.1.length : Int) then ((bytes_Clone.f (bt127.2.1.drop 8)).bind fun t139 => (if x4_1.length < 4398046511104 then (wal_Scan.l0 k1 l0 (wrap64 (x1_1 + 1)) (x4_1 ++ [(⟨x1_1, t139⟩ : S60)]) (wrap64 (x5_1 + bt127.2.2.1))) else (none))) else (none)) else (some (x4_1, x5_1))))))) else (some (x4_1, x5_1))) else (some (x4_1, x5_1)))) = some (r1, r2) := by rw [hy123]; exact H
     have Ny123 := d' hy123
     clear hy123
     replace H := Option.bind_eq_some_iff.mp H
     obtain ⟨⟨t127, t128, t131, t132⟩, A50, H⟩ := H
     (try dsimp only at H)
     have A5 := d' A50
     clear A50
     by_cases c6 : t132 = 0
     ·
      rw [if_pos c6] at H
      have c6b0 := beq_iff_eq.mpr c6
      have c6b1 := bne_eq_false_iff_eq.mpr c6
      clear c6
      by_cases c7 : t127 = 2
      ·
       rw [if_pos c7] at H
       have c7b0 := beq_iff_eq.mpr c7
       have c7b1 := bne_eq_false_iff_eq.mpr c7
       clear c7
       by_cases c8 : (t128.length : Int) < 8
       ·
        rw [if_pos c8] at H
        have c8b0 := decide_eq_true c8
        have c8b1 : decide (t128.length < 8) = true := decide_eq_true (by omega)
        clear c8
        simp only [Option.some.injEq, Prod.mk.injEq] at H
        obtain ⟨rfl, rfl⟩ := H
        have q9 : (x5_1 : Int) ≤ ((l0.length : Int) : Int) := oD
        obtain ⟨i09, hi09, _, hsz9, _⟩ := info_parts info5
        have hroom9 : l0.length ≤ c0 := HC0.out
        have hC9 : Kd.C (Kd.int .u8) _ A0 l0.length l0 := HR0.out
        have q09 : (0 : Int) ≤ (x5_1 : Int) := oD
        have hcut9 := cut_from (P := Try.prog) 25 5 .i64 Try.underlying25 hi09 1 hsz9 A0 l0.length c0 x5_1 q09 q9
        have hr9 := Kd.C_drop (m := (x5_1 : Int).toNat) (c := c0) hC9 (by omega) hroom9
        obtain ⟨A9, hA9⟩ : ∃ A1, A1 = (if c0 = (x5_1 : Int).toNat then A0 else (A0 : Option Addr).map (·.add ((x5_1 : Int).toNat * 1))) := ⟨_, rfl⟩
        obtain ⟨c9, hc9⟩ : ∃ c1, c1 = c0 - (x5_1 : Int).toNat := ⟨_, rfl⟩
        have hy9 : y123.length = l0.length - (x5_1 : Int).toNat := (by rw [Ny123.out, List.length_drop] <;> omega)
        rw [show (l0).drop (x5_1 : Int).toNat = y123 from Ny123.out.symm] at hr9
        replace hr9 : Kd.C (Kd.int .u8) _ A9 y123.length y123 := (by rw [hA9]; exact hr9)
        rw [← hy9, ← hA9, ← hc9] at hcut9
        have HR126 := d' hr9
        have HC126 := d' (show y123.length ≤ c9 from by rw [hy9, hc9]; exact Nat.sub_le_sub_right hroom9 _)
        clear hr9 hC9 hroom9 hi09 hsz9 hc9
        have KY9 := d' hy9
        have KA9 := d' hA9
        clear hy9 hA9
        replace q9 := eq_true q9
        go_wp2_with (first | ((with_reducible refine gate_callee (f := 50) rfl ?_); refine gL 13 Try.func50 #[.slice A9 y123.length c9] (h := ?_); (with_reducible refine (seal_Get.calls _ _ y123 t127 t128 t131 t132 _ ?side1 ?side2 A5.out).mono ?_); (case side1 => exact Kd.eC HR126 HB); (case side2 => exact HC126.out); rintro e w10 ⟨v129, rfl, ho0, hb⟩; refine ⟨_, rfl, ?_⟩; have n0_ := d' (Kd.S_elder' (Kd.eS HO_4) (Kd.R_base ho0) hb); have n1_ := d' (Kd.R_lower ho0 (a' (eH HB))); have n2_ := d' (c' (eH HB) hb); clear HO_4; clear HB; have HO_4 := n0_; have HO130 := n1_; have HB := n2_; clear n0_ n1_ n2_; (try clear hb); (try clear hb2); (try clear hk); (try clear hi); (try clear ho0)) | ((with_reducible refine gate_dst (N := 6) rfl ?_); (try (refine gate_guard (by rfl) ?_; dsimp only)); refine box_event ?hg (N := 6) ?hd (cs := #[.int .i64 0, .slice none 0 0]) (t := 67) ?hr ?_; (case hd => rfl); (case hg => rfl); (case hr => go_simp <;> rfl); intro gb133 hg w11 hbox hb; have n0_ := d' (Kd.S_below (Kd.eS HO_4) hb); have n1_ := d' (Kd.R_below (Kd.eR HO130) hb); have n2_ := d' (c' (eH HB) hb); have n3_ := d' (hbox); have n4_ := d' ((by rw [hg]; exact (a' (eH HB)) : w.heap.size ≤ gb133)); have n5_ := d' ((by rw [hg]; exact (a' (eH HB)) : w.heap.size ≤ gb133)); clear HO_4; clear HO130; clear HB; have HO_4 := n0_; have HO130 := n1_; have HB := n2_; have BK133 := n3_; have GW133 := n4_; have GE133 := n5_; clear n0_ n1_ n2_ n3_ n4_ n5_; clear hb hbox hg; have hcz12_0 := bC BK133 0 (.int .i64 0); have hcz12_1 := bC BK133 1 (.slice none 0 0); have hfz12_0 := b' BK133.out 0; have hfz12_1 := b' BK133.out 1; obtain ⟨Ao13, co13, eo13⟩ := Kd.R_slice HO130.out; subst eo13))
        go_ret2
        exact ⟨_, eE, by (with_reducible repeat (first | apply Kd.S_alloc | apply Kd.S_drewN | apply Kd.S_drew)); exact Kd.S_mono (Kd.S_far (p := ⟨gb133, 1, none⟩) (Kd.S_far (p := ⟨gb133, 0, none⟩) (Kd.S_types HO_4.out BK133.out (by decide)) (fun _ hk => hk.2) (.int .i64 t127)) (fun _ hk => hk.2) (.slice Ao13 t128.length co13)) (fun _ hk => trivial), eH HB⟩
       ·
        rw [if_neg c8] at H
        have c8b0 := decide_eq_false c8
        have c8b1 : decide (t128.length < 8) = false := decide_eq_false (by omega)
        clear c8
        by_cases c14 : (t128.length : Int) > 408
        ·
         rw [if_pos c14] at H
         have c14b0 := decide_eq_true c14
         have c14b1 : decide (408 < t128.length) = true := decide_eq_true (by omega)
         clear c14
         simp only [Option.some.injEq, Prod.mk.injEq] at H
         obtain ⟨rfl, rfl⟩ := H
         have q15 : (x5_1 : Int) ≤ ((l0.length : Int) : Int) := oD
         obtain ⟨i015, hi015, _, hsz15, _⟩ := info_parts info5
         have hroom15 : l0.length ≤ c0 := HC0.out
         have hC15 : Kd.C (Kd.int .u8) _ A0 l0.length l0 := HR0.out
         have q015 : (0 : Int) ≤ (x5_1 : Int) := oD
         have hcut15 := cut_from (P := Try.prog) 25 5 .i64 Try.underlying25 hi015 1 hsz15 A0 l0.length c0 x5_1 q015 q15
         have hr15 := Kd.C_drop (m := (x5_1 : Int).toNat) (c := c0) hC15 (by omega) hroom15
         obtain ⟨A15, hA15⟩ : ∃ A1, A1 = (if c0 = (x5_1 : Int).toNat then A0 else (A0 : Option Addr).map (·.add ((x5_1 : Int).toNat * 1))) := ⟨_, rfl⟩
         obtain ⟨c15, hc15⟩ : ∃ c1, c1 = c0 - (x5_1 : Int).toNat := ⟨_, rfl⟩
         have hy15 : y123.length = l0.length - (x5_1 : Int).toNat := (by rw [Ny123.out, List.length_drop] <;> omega)
         rw [show (l0).drop (x5_1 : Int).toNat = y123 from Ny123.out.symm] at hr15
         replace hr15 : Kd.C (Kd.int .u8) _ A15 y123.length y123 := (by rw [hA15]; exact hr15)
         rw [← hy15, ← hA15, ← hc15] at hcut15
         have HR126 := d' hr15
         have HC126 := d' (show y123.length ≤ c15 from by rw [hy15, hc15]; exact Nat.sub_le_sub_right hroom15 _)
         clear hr15 hC15 hroom15 hi015 hsz15 hc15
         have KY15 := d' hy15
         have KA15 := d' hA15
         clear hy15 hA15
         replace q15 := eq_true q15
         go_wp2_with (first | ((with_reducible refine gate_callee (f := 50) rfl ?_); refine gL 13 Try.func50 #[.slice A15 y123.length c15] (h := ?_); (with_reducible refine (seal_Get.calls _ _ y123 t127 t128 t131 t132 _ ?side1 ?side2 A5.out).mono ?_); (case side1 => exact Kd.eC HR126 HB); (case side2 => exact HC126.out); rintro e w16 ⟨v129, rfl, ho0, hb⟩; refine ⟨_, rfl, ?_⟩; have n0_ := d' (Kd.S_elder' (Kd.eS HO_4) (Kd.R_base ho0) hb); have n1_ := d' (Kd.R_lower ho0 (a' (eH HB))); have n2_ := d' (c' (eH HB) hb); clear HO_4; clear HB; have HO_4 := n0_; have HO130 := n1_; have HB := n2_; clear n0_ n1_ n2_; (try clear hb); (try clear hb2); (try clear hk); (try clear hi); (try clear ho0)) | ((with_reducible refine gate_dst (N := 6) rfl ?_); (try (refine gate_guard (by rfl) ?_; dsimp only)); refine box_event ?hg (N := 6) ?hd (cs := #[.int .i64 0, .slice none 0 0]) (t := 67) ?hr ?_; (case hd => rfl); (case hg => rfl); (case hr => go_simp <;> rfl); intro gb133 hg w17 hbox hb; have n0_ := d' (Kd.S_below (Kd.eS HO_4) hb); have n1_ := d' (Kd.R_below (Kd.eR HO130) hb); have n2_ := d' (c' (eH HB) hb); have n3_ := d' (hbox); have n4_ := d' ((by rw [hg]; exact (a' (eH HB)) : w.heap.size ≤ gb133)); have n5_ := d' ((by rw [hg]; exact (a' (eH HB)) : w.heap.size ≤ gb133)); clear HO_4; clear HO130; clear HB; have HO_4 := n0_; have HO130 := n1_; have HB := n2_; have BK133 := n3_; have GW133 := n4_; have GE133 := n5_; clear n0_ n1_ n2_ n3_ n4_ n5_; clear hb hbox hg; have hcz18_0 := bC BK133 0 (.int .i64 0); have hcz18_1 := bC BK133 1 (.slice none 0 0); have hfz18_0 := b' BK133.out 0; have hfz18_1 := b' BK133.out 1; obtain ⟨Ao19, co19, eo19⟩ := Kd.R_slice HO130.out; subst eo19))
         go_ret2
         exact ⟨_, eE, by (with_reducible repeat (first | apply Kd.S_alloc | apply Kd.S_drewN | apply Kd.S_drew)); exact Kd.S_mono (Kd.S_far (p := ⟨gb133, 1, none⟩) (Kd.S_far (p := ⟨gb133, 0, none⟩) (Kd.S_types HO_4.out BK133.out (by decide)) (fun _ hk => hk.2) (.int .i64 t127)) (fun _ hk => hk.2) (.slice Ao19 t128.length co19)) (fun _ hk => trivial), eH HB⟩
        ·
         rw [if_neg c14] at H
         have c14b0 := decide_eq_false c14
         have c14b1 : decide (408 < t128.length) = false := decide_eq_false (by omega)
         clear c14
         by_cases c20 : x1_1 < 0
         ·
          rw [if_pos c20] at H
          have c20b0 := decide_eq_true c20
          clear c20
          simp only [Option.some.injEq, Prod.mk.injEq] at H
          obtain ⟨rfl, rfl⟩ := H
          have q21 : (x5_1 : Int) ≤ ((l0.length : Int) : Int) := oD
          obtain ⟨i021, hi021, _, hsz21, _⟩ := info_parts info5
          have hroom21 : l0.length ≤ c0 := HC0.out
          have hC21 : Kd.C (Kd.int .u8) _ A0 l0.length l0 := HR0.out
          have q021 : (0 : Int) ≤ (x5_1 : Int) := oD
          have hcut21 := cut_from (P := Try.prog) 25 5 .i64 Try.underlying25 hi021 1 hsz21 A0 l0.length c0 x5_1 q021 q21
          have hr21 := Kd.C_drop (m := (x5_1 : Int).toNat) (c := c0) hC21 (by omega) hroom21
          obtain ⟨A21, hA21⟩ : ∃ A1, A1 = (if c0 = (x5_1 : Int).toNat then A0 else (A0 : Option Addr).map (·.add ((x5_1 : Int).toNat * 1))) := ⟨_, rfl⟩
          obtain ⟨c21, hc21⟩ : ∃ c1, c1 = c0 - (x5_1 : Int).toNat := ⟨_, rfl⟩
          have hy21 : y123.length = l0.length - (x5_1 : Int).toNat := (by rw [Ny123.out, List.length_drop] <;> omega)
          rw [show (l0).drop (x5_1 : Int).toNat = y123 from Ny123.out.symm] at hr21
          replace hr21 : Kd.C (Kd.int .u8) _ A21 y123.length y123 := (by rw [hA21]; exact hr21)
          rw [← hy21, ← hA21, ← hc21] at hcut21
          have HR126 := d' hr21
          have HC126 := d' (show y123.length ≤ c21 from by rw [hy21, hc21]; exact Nat.sub_le_sub_right hroom21 _)
          clear hr21 hC21 hroom21 hi021 hsz21 hc21
          have KY21 := d' hy21
          have KA21 := d' hA21
          clear hy21 hA21
          replace q21 := eq_true q21
          go_wp2_with (first | ((with_reducible refine gate_callee (f := 50) rfl ?_); refine gL 13 Try.func50 #[.slice A21 y123.length c21] (h := ?_); (with_reducible refine (seal_Get.calls _ _ y123 t127 t128 t131 t132 _ ?side1 ?side2 A5.out).mono ?_); (case side1 => exact Kd.eC HR126 HB); (case side2 => exact HC126.out); rintro e w22 ⟨v129, rfl, ho0, hb⟩; refine ⟨_, rfl, ?_⟩; have n0_ := d' (Kd.S_elder' (Kd.eS HO_4) (Kd.R_base ho0) hb); have n1_ := d' (Kd.R_lower ho0 (a' (eH HB))); have n2_ := d' (c' (eH HB) hb); clear HO_4; clear HB; have HO_4 := n0_; have HO130 := n1_; have HB := n2_; clear n0_ n1_ n2_; (try clear hb); (try clear hb2); (try clear hk); (try clear hi); (try clear ho0)) | ((with_reducible refine gate_dst (N := 6) rfl ?_); (try (refine gate_guard (by rfl) ?_; dsimp only)); refine box_event ?hg (N := 6) ?hd (cs := #[.int .i64 0, .slice none 0 0]) (t := 67) ?hr ?_; (case hd => rfl); (case hg => rfl); (case hr => go_simp <;> rfl); intro gb133 hg w23 hbox hb; have n0_ := d' (Kd.S_below (Kd.eS HO_4) hb); have n1_ := d' (Kd.R_below (Kd.eR HO130) hb); have n2_ := d' (c' (eH HB) hb); have n3_ := d' (hbox); have n4_ := d' ((by rw [hg]; exact (a' (eH HB)) : w.heap.size ≤ gb133)); have n5_ := d' ((by rw [hg]; exact (a' (eH HB)) : w.heap.size ≤ gb133)); clear HO_4; clear HO130; clear HB; have HO_4 := n0_; have HO130 := n1_; have HB := n2_; have BK133 := n3_; have GW133 := n4_; have GE133 := n5_; clear n0_ n1_ n2_ n3_ n4_ n5_; clear hb hbox hg; have hcz24_0 := bC BK133 0 (.int .i64 0); have hcz24_1 := bC BK133 1 (.slice none 0 0); have hfz24_0 := b' BK133.out 0; have hfz24_1 := b' BK133.out 1; obtain ⟨Ao25, co25, eo25⟩ := Kd.R_slice HO130.out; subst eo25))
          go_ret2
          exact ⟨_, eE, by (with_reducible repeat (first | apply Kd.S_alloc | apply Kd.S_drewN | apply Kd.S_drew)); exact Kd.S_mono (Kd.S_far (p := ⟨gb133, 1, none⟩) (Kd.S_far (p := ⟨gb133, 0, none⟩) (Kd.S_types HO_4.out BK133.out (by decide)) (fun _ hk => hk.2) (.int .i64 t127)) (fun _ hk => hk.2) (.slice Ao25 t128.length co25)) (fun _ hk => trivial), eH HB⟩
         ·
          rw [if_neg c20] at H
          have c20b0 := decide_eq_false c20
          clear c20
          replace H := Option.bind_eq_some_iff.mp H
          obtain ⟨t134, A260, H⟩ := H
          (try dsimp only at H)
          have A26 := d' A260
          clear A260
          by_cases c27 : t134 = (IntKind.u64.wrap (x1_1))
          ·
           rw [if_pos c27] at H
           have c27b0 := beq_iff_eq.mpr c27
           have c27b1 := bne_eq_false_iff_eq.mpr c27
           clear c27
           by_cases c28 : 8 ≤ (t128.length : Int)
           ·
            rw [if_pos c28] at H
            have c28b0 := eq_true c28
            have c28b1 := decide_eq_true c28
            clear c28
            obtain ⟨y135, hy135⟩ : ∃ y_ : List Int, y_ = (t128.drop 8) := ⟨_, rfl⟩
            replace H : ((bytes_Clone.f y135).bind fun t139 => (if x4_1.length < 4398046511104 then (wal_Scan.l0 k1 l0 (wrap64 (x1_1 + 1)) (x4_1 ++ [(⟨x1_1, t139⟩ : S60)]) (wrap64 (x5_1 + t131))) else (none))) = some (r1, r2) := by rw [hy135]; exact H
            have Ny135 := d' hy135
            clear hy135
            replace H := Option.bind_eq_some_iff.mp H
            obtain ⟨t139, A290, H⟩ := H
            (try dsimp only at H)
            have A29 := d' A290
            clear A290
            by_cases c30 : x4_1.length < 4398046511104
            ·
             rw [if_pos c30] at H
             have LMc30 := d' c30
             clear c30
             obtain ⟨y142, hy142⟩ : ∃ y_ : List (S60), y_ = (x4_1 ++ [(⟨x1_1, t139⟩ : S60)]) := ⟨_, rfl⟩
             replace H : (wal_Scan.l0 k1 l0 (wrap64 (x1_1 + 1)) y142 (wrap64 (x5_1 + t131))) = some (r1, r2) := by rw [hy142]; exact H
             have Ny142 := d' hy142
             clear hy142
             have H' := d' H
             clear H
             have q31 : (x5_1 : Int) ≤ ((l0.length : Int) : Int) := oD
             obtain ⟨i031, hi031, _, hsz31, _⟩ := info_parts info5
             have hroom31 : l0.length ≤ c0 := HC0.out
             have hC31 : Kd.C (Kd.int .u8) _ A0 l0.length l0 := HR0.out
             have q031 : (0 : Int) ≤ (x5_1 : Int) := oD
             have hcut31 := cut_from (P := Try.prog) 25 5 .i64 Try.underlying25 hi031 1 hsz31 A0 l0.length c0 x5_1 q031 q31
             have hr31 := Kd.C_drop (m := (x5_1 : Int).toNat) (c := c0) hC31 (by omega) hroom31
             obtain ⟨A31, hA31⟩ : ∃ A1, A1 = (if c0 = (x5_1 : Int).toNat then A0 else (A0 : Option Addr).map (·.add ((x5_1 : Int).toNat * 1))) := ⟨_, rfl⟩
             obtain ⟨c31, hc31⟩ : ∃ c1, c1 = c0 - (x5_1 : Int).toNat := ⟨_, rfl⟩
             have hy31 : y123.length = l0.length - (x5_1 : Int).toNat := (by rw [Ny123.out, List.length_drop] <;> omega)
             rw [show (l0).drop (x5_1 : Int).toNat = y123 from Ny123.out.symm] at hr31
             replace hr31 : Kd.C (Kd.int .u8) _ A31 y123.length y123 := (by rw [hA31]; exact hr31)
             rw [← hy31, ← hA31, ← hc31] at hcut31
             have HR126 := d' hr31
             have HC126 := d' (show y123.length ≤ c31 from by rw [hy31, hc31]; exact Nat.sub_le_sub_right hroom31 _)
             clear hr31 hC31 hroom31 hi031 hsz31 hc31
             have KY31 := d' hy31
             have KA31 := d' hA31
             clear hy31 hA31
             replace q31 := eq_true q31
             go_wp2_with (first | ((with_reducible refine gate_callee (f := 50) rfl ?_); refine gL 13 Try.func50 #[.slice A31 y123.length c31] (h := ?_); (with_reducible refine (seal_Get.calls _ _ y123 t127 t128 t131 t132 _ ?side1 ?side2 A5.out).mono ?_); (case side1 => exact Kd.eC HR126 HB); (case side2 => exact HC126.out); rintro e w32 ⟨v129, rfl, ho0, hb⟩; refine ⟨_, rfl, ?_⟩; have n0_ := d' (Kd.S_elder' (Kd.eS HO_4) (Kd.R_base ho0) hb); have n1_ := d' (Kd.R_lower ho0 (a' (eH HB))); have n2_ := d' (c' (eH HB) hb); clear HO_4; clear HB; have HO_4 := n0_; have HO130 := n1_; have HB := n2_; clear n0_ n1_ n2_; (try clear hb); (try clear hb2); (try clear hk); (try clear hi); (try clear ho0)) | ((with_reducible refine gate_dst (N := 6) rfl ?_); (try (refine gate_guard (by rfl) ?_; dsimp only)); refine box_event ?hg (N := 6) ?hd (cs := #[.int .i64 0, .slice none 0 0]) (t := 67) ?hr ?_; (case hd => rfl); (case hg => rfl); (case hr => go_simp <;> rfl); intro gb133 hg w33 hbox hb; have n0_ := d' (Kd.S_below (Kd.eS HO_4) hb); have n1_ := d' (Kd.R_below (Kd.eR HO130) hb); have n2_ := d' (c' (eH HB) hb); have n3_ := d' (hbox); have n4_ := d' ((by rw [hg]; exact (a' (eH HB)) : w.heap.size ≤ gb133)); have n5_ := d' ((by rw [hg]; exact (a' (eH HB)) : w.heap.size ≤ gb133)); clear HO_4; clear HO130; clear HB; have HO_4 := n0_; have HO130 := n1_; have HB := n2_; have BK133 := n3_; have GW133 := n4_; have GE133 := n5_; clear n0_ n1_ n2_ n3_ n4_ n5_; clear hb hbox hg; have hcz34_0 := bC BK133 0 (.int .i64 0); have hcz34_1 := bC BK133 1 (.slice none 0 0); have hfz34_0 := b' BK133.out 0; have hfz34_1 := b' BK133.out 1; obtain ⟨Ao35, co35, eo35⟩ := Kd.R_slice HO130.out; subst eo35) | ((with_reducible refine gate_store (t := 67) (p := 6) rfl ?_); refine store_event (t := 67) (p := 6) (v := ?vo_w36) (w1 := ((w33.setCell ⟨gb133, 0, none⟩ (.int .i64 t127)).setCell ⟨gb133, 1, none⟩ (.slice Ao35 t128.length co35))) ?hg ?ho ?hn ?hr ?_; (case ho => rfl); (case hg => rfl); (case hn => rfl); (case hr => go_simp <;> rfl); intro w36 hw; have n0_ : Aside0 (Kd.S k60 60 w36 w.heap.size (fun k_ => some k_ ≠ (.slice Ao35 t128.length co35 : Value).ownBlock) u4 x4_1) := ⟨(by rw [hw]; exact (Kd.kS (Kd.S_mono (Kd.S_far (p := ⟨gb133, 1, none⟩) (Kd.S_far (p := ⟨gb133, 0, none⟩) (Kd.S_types HO_4.out BK133.out (by decide)) (fun _ hk => hk.2) (.int .i64 t127)) (fun _ hk => hk.2) (.slice Ao35 t128.length co35)) (fun _ hk => hk.1.2))))⟩; have n1_ : Aside0 (Kd.R (Kd.int .u8) 5 w36 w.heap.size (fun _ => True) (.slice Ao35 t128.length co35) t128) := ⟨(by rw [hw]; exact (Kd.kR (Kd.R_mono (Kd.R_far (p := ⟨gb133, 1, none⟩) (Kd.R_far (p := ⟨gb133, 0, none⟩) (Kd.R_types HO130.out BK133.out (by decide)) (fun _ hk => hk.2) (.int .i64 t127)) (fun _ hk => hk.2) (.slice Ao35 t128.length co35)) (fun _ hk => trivial))))⟩; have n2_ : Aside0 (w36.heap[gb133]? = some (.cells #[.int .i64 t127, .slice Ao35 t128.length co35] 67 (0, 0))) := ⟨(by rw [hw]; exact (by refine eK ?_; refine blk_put (cs := #[.int .i64 t127, .slice none 0 0]) ?_ 1 _ rfl; refine eK ?_; refine blk_put (cs := #[.int .i64 0, .slice none 0 0]) ?_ 0 _ rfl; refine eK ?_; exact BK133.out))⟩; have n3_ : Aside0 (Below w.heap.size w w36) := ⟨(by rw [hw]; exact (eH HB))⟩; clear hw; clear HO_4; clear HO130; clear BK133; clear HB; have HO_4 := n0_; have HO130 := n1_; have BK133 := n2_; have HB := n3_; clear n0_ n1_ n2_ n3_; have hcz37_0 := bC BK133 0 (.int .i64 t127); have hcz37_1 := bC BK133 1 (.slice Ao35 t128.length co35); have hfz37_0 := b' BK133.out 0; have hfz37_1 := b' BK133.out 1) | (go_at_call 51; (with_reducible refine (wal_get.calls k1 _ _ t128 t134 _ ?side1 ?side2 A26.out).mono ?_); (case side1 => exact Kd.kC (Kd.R_reads' HO130.out).2.2); (case side2 => exact (Kd.R_reads' HO130.out).2.1); rintro e w' ⟨rfl, ⟨nd, rfl⟩⟩; have q38 : (8 : Int) ≤ ((t128.length : Int) : Int) := oD; obtain ⟨i038, hi038, _, hsz38, _⟩ := info_parts info5; have hroom38 : t128.length ≤ co35 := (Kd.R_reads' HO130.out).2.1; have hC38 : Kd.C (Kd.int .u8) _ Ao35 t128.length t128 := (Kd.R_reads' HO130.out).2.2; have hcut38 := cut_from (P := Try.prog) 25 5 .i64 Try.underlying25 hi038 1 hsz38 Ao35 t128.length co35 8 (by omega) q38; have hr38 := Kd.C_drop (m := (8 : Int).toNat) (c := co35) hC38 (by omega) hroom38; obtain ⟨A38, hA38⟩ : ∃ A1, A1 = (if co35 = (8 : Int).toNat then Ao35 else (Ao35 : Option Addr).map (·.add ((8 : Int).toNat * 1))) := ⟨_, rfl⟩; obtain ⟨c38, hc38⟩ : ∃ c1, c1 = co35 - (8 : Int).toNat := ⟨_, rfl⟩; have hy38 : y135.length = t128.length - (8 : Int).toNat := (by rw [Ny135.out, List.length_drop] <;> omega); rw [show (t128).drop (8 : Int).toNat = y135 from Ny135.out.symm] at hr38; replace hr38 : Kd.C (Kd.int .u8) _ A38 y135.length y135 := (by rw [hA38]; exact hr38); rw [← hy38, ← hA38, ← hc38] at hcut38; have HR138 := d' hr38; have HC138 := d' (show y135.length ≤ c38 from by rw [hy38, hc38]; exact Nat.sub_le_sub_right hroom38 _); clear hr38 hC38 hroom38 hi038 hsz38 hc38; have KY38 := d' hy38; have KA38 := d' hA38; clear hy38 hA38; have KL38 := d' (show 8 ≤ t128.length from by omega); replace q38 := eq_true q38) | ((with_reducible refine gate_callee (f := 37) rfl ?_); refine gL 55 Try.func37 #[.slice A38 y135.length c38] (h := ?_); (with_reducible refine (bytes_Clone.calls _ _ y135 t139 _ ?side1 ?side2 A29.out).mono ?_); (case side1 => exact Kd.cC HR138); (case side2 => exact HC138.out); rintro e w39 ⟨v140, rfl, ho0, hb⟩; refine ⟨_, rfl, ?_⟩; have n0_ := d' (Kd.S_elder' (Kd.eS HO_4) (Kd.R_base ho0) hb); have n1_ := d' (Kd.R_elder' (Kd.eR HO130) (Kd.R_base ho0) hb); have n2_ := d' (Kd.R_lower (Kd.R_new' ho0 (Kd.R_lt (Kd.eR HO130))) (a' (eH HB))); have n3_ := bB BK133 hb; have n4_ := d' (Kd.C_below (Kd.cC HR138) hb); have n5_ := d' (c' (eH HB) hb); clear HO_4; clear HO130; clear BK133; clear HR138; clear HB; have HO_4 := n0_; have HO130 := n1_; have HO141 := n2_; have BK133 := n3_; have HR138 := n4_; have HB := n5_; clear n0_ n1_ n2_ n3_ n4_ n5_; (try clear hb); (try clear hb2); (try clear hk); (try clear hi); (try clear ho0); obtain ⟨Ao40, co40, eo40⟩ := Kd.R_slice HO141.out; subst eo40) | ((with_reducible refine gate_builtin (b := .append) (xs := #[.tmp 50, .tmp 57]) rfl ?_); (try (refine gate_guard (by rfl) ?_; dsimp only)); at_builtin; refine Kd.S_append k60 (w0 := w) w.heap.size rfl (.tmp 50) (.tmp 57) 39 60 (.agg #[(.int .i64 0), (.slice none 0 0)]) 32 rfl Try.underlying39 info60 rfl (by decide) (by omega) u4 x4_1 (⟨x1_1, t139⟩ : S60) [.int .i64 x1_1, .slice Ao40 t139.length co40] (fun k_ => some k_ ≠ (.slice Ao35 t128.length co35 : Value).ownBlock) (fun k_ => some k_ = (.slice Ao40 t139.length co40 : Value).ownBlock) rfl rfl ?aP (fun k_ hk_ => ((Kd.R_mono (ok' := fun k_ => ((fun k_ => some k_ ≠ (.slice Ao35 t128.length co35 : Value).ownBlock)) k_ ∧ some k_ ≠ (u4 : Value).ownBlock) (Kd.R_apart' (HO141.out) (Kd.S_typed HO_4.out) (by decide)) (fun k_ hk => ⟨hk.1.2, hk.2⟩))).1 k_ hk_.symm) ?aF ?aO ?aB ?aS ?aL ?_; (case aP => exact k60_mkM _ _ _ (⟨x1_1, t139⟩ : S60) (Kd.R_mono (Kd.R_tight rfl (Kd.R_mono (ok' := fun k_ => ((fun k_ => some k_ ≠ (.slice Ao35 t128.length co35 : Value).ownBlock)) k_ ∧ some k_ ≠ (u4 : Value).ownBlock) (Kd.R_apart' (HO141.out) (Kd.S_typed HO_4.out) (by decide)) (fun k_ hk => ⟨hk.1.2, hk.2⟩))) (fun _ h_ => h_))); (case aB => exact (eH HB)); (case aF => exact (fun k_ hk => Kd.fresh' (Kd.R_lt (Kd.eR HO130)) k_ hk)); (case aO => exact (Kd.kS (Kd.S_mono HO_4.out (fun k_ hk => ⟨hk.1, fun e_ => hk.2 e_⟩)))); (case aS => exact (a' (eH HB))); (case aL => have := LMc30.out; omega); intro v143 w41 ho hb hg hat; rw [← Ny142.out] at ho; have n0_ := d' (Kd.R_over' (Kd.eR HO130) (Kd.S_typed (Kd.eS HO_4)) (by decide) hg); have n1_ := d' (blk_grown (g := gb133) (o := .cells #[.int .i64 t127, .slice Ao35 t128.length co35] 67 (0, 0)) (eB BK133) hg (Kd.S_ne HO_4.out BK133.out (by decide))); have n2_ := d' (hb); have n3_ := d' ((show Kd.C (Kd.int .u8) w41 A38 y135.length y135 from by rw [Ny135.out, KA38.out]; exact Kd.C_drop (m := 8) (c := co35) ((Kd.R_reads' (Kd.R_over' (Kd.eR HO130) (Kd.S_typed (Kd.eS HO_4)) (by decide) hg)).2.2) KL38.out ((Kd.R_reads' (Kd.R_over' (Kd.eR HO130) (Kd.S_typed (Kd.eS HO_4)) (by decide) hg)).2.1))); have n4_ := d' (ho); clear HO130; clear BK133; clear HB; clear HR138; clear HO_4; clear HO141; have HO130 := n0_; have BK133 := n1_; have HB := n2_; have HR138 := n3_; have HO144 := n4_; clear n0_ n1_ n2_ n3_ n4_; clear ho hb hg hat))
             go_roundg k1
             case measure => have := HK1.out; omega
             case rel => exact ⟨(wrap64 (x1_1 + 1)), (y142), (wrap64 (x5_1 + t131)), rS, rS, H', ⟨by have := HK1.out; omega⟩, ⟨by (with_reducible repeat (first | apply Kd.S_alloc | apply Kd.S_drewN | apply Kd.S_drew)); exact Kd.S_mono HO144.out (fun _ hk => trivial)⟩, ⟨eH HB⟩⟩
            ·
             rw [if_neg c30] at H
             exact absurd H (by simp)
           ·
            rw [if_neg c28] at H
            exact absurd H (by simp)
          ·
           rw [if_neg c27] at H
           have c27b0 := beq_eq_false_iff_ne.mpr c27
           have c27b1 := bne_iff_ne.mpr c27
           simp only [Option.some.injEq, Prod.mk.injEq] at H
           obtain ⟨rfl, rfl⟩ := H
           have q42 : (x5_1 : Int) ≤ ((l0.length : Int) : Int) := oD
           obtain ⟨i042, hi042, _, hsz42, _⟩ := info_parts info5
           have hroom42 : l0.length ≤ c0 := HC0.out
           have hC42 : Kd.C (Kd.int .u8) _ A0 l0.length l0 := HR0.out
           have q042 : (0 : Int) ≤ (x5_1 : Int) := oD
           have hcut42 := cut_from (P := Try.prog) 25 5 .i64 Try.underlying25 hi042 1 hsz42 A0 l0.length c0 x5_1 q042 q42
           have hr42 := Kd.C_drop (m := (x5_1 : Int).toNat) (c := c0) hC42 (by omega) hroom42
           obtain ⟨A42, hA42⟩ : ∃ A1, A1 = (if c0 = (x5_1 : Int).toNat then A0 else (A0 : Option Addr).map (·.add ((x5_1 : Int).toNat * 1))) := ⟨_, rfl⟩
           obtain ⟨c42, hc42⟩ : ∃ c1, c1 = c0 - (x5_1 : Int).toNat := ⟨_, rfl⟩
           have hy42 : y123.length = l0.length - (x5_1 : Int).toNat := (by rw [Ny123.out, List.length_drop] <;> omega)
           rw [show (l0).drop (x5_1 : Int).toNat = y123 from Ny123.out.symm] at hr42
           replace hr42 : Kd.C (Kd.int .u8) _ A42 y123.length y123 := (by rw [hA42]; exact hr42)
           rw [← hy42, ← hA42, ← hc42] at hcut42
           have HR126 := d' hr42
           have HC126 := d' (show y123.length ≤ c42 from by rw [hy42, hc42]; exact Nat.sub_le_sub_right hroom42 _)
           clear hr42 hC42 hroom42 hi042 hsz42 hc42
           have KY42 := d' hy42
           have KA42 := d' hA42
           clear hy42 hA42
           replace q42 := eq_true q42
           go_wp2_with (first | ((with_reducible refine gate_callee (f := 50) rfl ?_); refine gL 13 Try.func50 #[.slice A42 y123.length c42] (h := ?_); (with_reducible refine (seal_Get.calls _ _ y123 t127 t128 t131 t132 _ ?side1 ?side2 A5.out).mono ?_); (case side1 => exact Kd.eC HR126 HB); (case side2 => exact HC126.out); rintro e w43 ⟨v129, rfl, ho0, hb⟩; refine ⟨_, rfl, ?_⟩; have n0_ := d' (Kd.S_elder' (Kd.eS HO_4) (Kd.R_base ho0) hb); have n1_ := d' (Kd.R_lower ho0 (a' (eH HB))); have n2_ := d' (c' (eH HB) hb); clear HO_4; clear HB; have HO_4 := n0_; have HO130 := n1_; have HB := n2_; clear n0_ n1_ n2_; (try clear hb); (try clear hb2); (try clear hk); (try clear hi); (try clear ho0)) | ((with_reducible refine gate_dst (N := 6) rfl ?_); (try (refine gate_guard (by rfl) ?_; dsimp only)); refine box_event ?hg (N := 6) ?hd (cs := #[.int .i64 0, .slice none 0 0]) (t := 67) ?hr ?_; (case hd => rfl); (case hg => rfl); (case hr => go_simp <;> rfl); intro gb133 hg w44 hbox hb; have n0_ := d' (Kd.S_below (Kd.eS HO_4) hb); have n1_ := d' (Kd.R_below (Kd.eR HO130) hb); have n2_ := d' (c' (eH HB) hb); have n3_ := d' (hbox); have n4_ := d' ((by rw [hg]; exact (a' (eH HB)) : w.heap.size ≤ gb133)); have n5_ := d' ((by rw [hg]; exact (a' (eH HB)) : w.heap.size ≤ gb133)); clear HO_4; clear HO130; clear HB; have HO_4 := n0_; have HO130 := n1_; have HB := n2_; have BK133 := n3_; have GW133 := n4_; have GE133 := n5_; clear n0_ n1_ n2_ n3_ n4_ n5_; clear hb hbox hg; have hcz45_0 := bC BK133 0 (.int .i64 0); have hcz45_1 := bC BK133 1 (.slice none 0 0); have hfz45_0 := b' BK133.out 0; have hfz45_1 := b' BK133.out 1; obtain ⟨Ao46, co46, eo46⟩ := Kd.R_slice HO130.out; subst eo46) | (go_at_call 51; (with_reducible refine (wal_get.calls k1 _ _ t128 t134 _ ?side1 ?side2 A26.out).mono ?_); (case side1 => refine (Kd.R_reads' (e := 5) (base := w.heap.size) (ok := fun k_ => True) (n := t128.length) (c := co46) ?_).2.2; exact (Kd.kR (Kd.R_mono (Kd.R_far (p := ⟨gb133, 1, none⟩) (Kd.R_far (p := ⟨gb133, 0, none⟩) (Kd.R_types HO130.out BK133.out (by decide)) (fun _ hk => hk.2) (.int .i64 t127)) (fun _ hk => hk.2) (.slice Ao46 t128.length co46)) (fun _ h_ => h_.1)))); (case side2 => exact (Kd.R_reads' HO130.out).2.1); rintro e w' ⟨rfl, ⟨nd, rfl⟩⟩))
           go_ret2
           exact ⟨_, eE, by (with_reducible repeat (first | apply Kd.S_alloc | apply Kd.S_drewN | apply Kd.S_drew)); exact Kd.S_mono (Kd.S_far (p := ⟨gb133, 1, none⟩) (Kd.S_far (p := ⟨gb133, 0, none⟩) (Kd.S_types HO_4.out BK133.out (by decide)) (fun _ hk => hk.2) (.int .i64 t127)) (fun _ hk => hk.2) (.slice Ao46 t128.length co46)) (fun _ hk => trivial), eH HB⟩
      ·
       rw [if_neg c7] at H
       have c7b0 := beq_eq_false_iff_ne.mpr c7
       have c7b1 := bne_iff_ne.mpr c7
       simp only [Option.some.injEq, Prod.mk.injEq] at H
       obtain ⟨rfl, rfl⟩ := H
       have q47 : (x5_1 : Int) ≤ ((l0.length : Int) : Int) := oD
       obtain ⟨i047, hi047, _, hsz47, _⟩ := info_parts info5
       have hroom47 : l0.length ≤ c0 := HC0.out
       have hC47 : Kd.C (Kd.int .u8) _ A0 l0.length l0 := HR0.out
       have q047 : (0 : Int) ≤ (x5_1 : Int) := oD
       have hcut47 := cut_from (P := Try.prog) 25 5 .i64 Try.underlying25 hi047 1 hsz47 A0 l0.length c0 x5_1 q047 q47
       have hr47 := Kd.C_drop (m := (x5_1 : Int).toNat) (c := c0) hC47 (by omega) hroom47
       obtain ⟨A47, hA47⟩ : ∃ A1, A1 = (if c0 = (x5_1 : Int).toNat then A0 else (A0 : Option Addr).map (·.add ((x5_1 : Int).toNat * 1))) := ⟨_, rfl⟩
       obtain ⟨c47, hc47⟩ : ∃ c1, c1 = c0 - (x5_1 : Int).toNat := ⟨_, rfl⟩
       have hy47 : y123.length = l0.length - (x5_1 : Int).toNat := (by rw [Ny123.out, List.length_drop] <;> omega)
       rw [show (l0).drop (x5_1 : Int).toNat = y123 from Ny123.out.symm] at hr47
       replace hr47 : Kd.C (Kd.int .u8) _ A47 y123.length y123 := (by rw [hA47]; exact hr47)
       rw [← hy47, ← hA47, ← hc47] at hcut47
       have HR126 := d' hr47
       have HC126 := d' (show y123.length ≤ c47 from by rw [hy47, hc47]; exact Nat.sub_le_sub_right hroom47 _)
       clear hr47 hC47 hroom47 hi047 hsz47 hc47
       have KY47 := d' hy47
       have KA47 := d' hA47
       clear hy47 hA47
       replace q47 := eq_true q47
       go_wp2_with (first | ((with_reducible refine gate_callee (f := 50) rfl ?_); refine gL 13 Try.func50 #[.slice A47 y123.length c47] (h := ?_); (with_reducible refine (seal_Get.calls _ _ y123 t127 t128 t131 t132 _ ?side1 ?side2 A5.out).mono ?_); (case side1 => exact Kd.eC HR126 HB); (case side2 => exact HC126.out); rintro e w48 ⟨v129, rfl, ho0, hb⟩; refine ⟨_, rfl, ?_⟩; have n0_ := d' (Kd.S_elder' (Kd.eS HO_4) (Kd.R_base ho0) hb); have n1_ := d' (Kd.R_lower ho0 (a' (eH HB))); have n2_ := d' (c' (eH HB) hb); clear HO_4; clear HB; have HO_4 := n0_; have HO130 := n1_; have HB := n2_; clear n0_ n1_ n2_; (try clear hb); (try clear hb2); (try clear hk); (try clear hi); (try clear ho0)) | ((with_reducible refine gate_dst (N := 6) rfl ?_); (try (refine gate_guard (by rfl) ?_; dsimp only)); refine box_event ?hg (N := 6) ?hd (cs := #[.int .i64 0, .slice none 0 0]) (t := 67) ?hr ?_; (case hd => rfl); (case hg => rfl); (case hr => go_simp <;> rfl); intro gb133 hg w49 hbox hb; have n0_ := d' (Kd.S_below (Kd.eS HO_4) hb); have n1_ := d' (Kd.R_below (Kd.eR HO130) hb); have n2_ := d' (c' (eH HB) hb); have n3_ := d' (hbox); have n4_ := d' ((by rw [hg]; exact (a' (eH HB)) : w.heap.size ≤ gb133)); have n5_ := d' ((by rw [hg]; exact (a' (eH HB)) : w.heap.size ≤ gb133)); clear HO_4; clear HO130; clear HB; have HO_4 := n0_; have HO130 := n1_; have HB := n2_; have BK133 := n3_; have GW133 := n4_; have GE133 := n5_; clear n0_ n1_ n2_ n3_ n4_ n5_; clear hb hbox hg; have hcz50_0 := bC BK133 0 (.int .i64 0); have hcz50_1 := bC BK133 1 (.slice none 0 0); have hfz50_0 := b' BK133.out 0; have hfz50_1 := b' BK133.out 1; obtain ⟨Ao51, co51, eo51⟩ := Kd.R_slice HO130.out; subst eo51))
       go_ret2
       exact ⟨_, eE, by (with_reducible repeat (first | apply Kd.S_alloc | apply Kd.S_drewN | apply Kd.S_drew)); exact Kd.S_mono (Kd.S_far (p := ⟨gb133, 1, none⟩) (Kd.S_far (p := ⟨gb133, 0, none⟩) (Kd.S_types HO_4.out BK133.out (by decide)) (fun _ hk => hk.2) (.int .i64 t127)) (fun _ hk => hk.2) (.slice Ao51 t128.length co51)) (fun _ hk => trivial), eH HB⟩
     ·
      rw [if_neg c6] at H
      have c6b0 := beq_eq_false_iff_ne.mpr c6
      have c6b1 := bne_iff_ne.mpr c6
      simp only [Option.some.injEq, Prod.mk.injEq] at H
      obtain ⟨rfl, rfl⟩ := H
      have q52 : (x5_1 : Int) ≤ ((l0.length : Int) : Int) := oD
      obtain ⟨i052, hi052, _, hsz52, _⟩ := info_parts info5
      have hroom52 : l0.length ≤ c0 := HC0.out
      have hC52 : Kd.C (Kd.int .u8) _ A0 l0.length l0 := HR0.out
      have q052 : (0 : Int) ≤ (x5_1 : Int) := oD
      have hcut52 := cut_from (P := Try.prog) 25 5 .i64 Try.underlying25 hi052 1 hsz52 A0 l0.length c0 x5_1 q052 q52
      have hr52 := Kd.C_drop (m := (x5_1 : Int).toNat) (c := c0) hC52 (by omega) hroom52
      obtain ⟨A52, hA52⟩ : ∃ A1, A1 = (if c0 = (x5_1 : Int).toNat then A0 else (A0 : Option Addr).map (·.add ((x5_1 : Int).toNat * 1))) := ⟨_, rfl⟩
      obtain ⟨c52, hc52⟩ : ∃ c1, c1 = c0 - (x5_1 : Int).toNat := ⟨_, rfl⟩
      have hy52 : y123.length = l0.length - (x5_1 : Int).toNat := (by rw [Ny123.out, List.length_drop] <;> omega)
      rw [show (l0).drop (x5_1 : Int).toNat = y123 from Ny123.out.symm] at hr52
      replace hr52 : Kd.C (Kd.int .u8) _ A52 y123.length y123 := (by rw [hA52]; exact hr52)
      rw [← hy52, ← hA52, ← hc52] at hcut52
      have HR126 := d' hr52
      have HC126 := d' (show y123.length ≤ c52 from by rw [hy52, hc52]; exact Nat.sub_le_sub_right hroom52 _)
      clear hr52 hC52 hroom52 hi052 hsz52 hc52
      have KY52 := d' hy52
      have KA52 := d' hA52
      clear hy52 hA52
      replace q52 := eq_true q52
      go_wp2_with (first | ((with_reducible refine gate_callee (f := 50) rfl ?_); refine gL 13 Try.func50 #[.slice A52 y123.length c52] (h := ?_); (with_reducible refine (seal_Get.calls _ _ y123 t127 t128 t131 t132 _ ?side1 ?side2 A5.out).mono ?_); (case side1 => exact Kd.eC HR126 HB); (case side2 => exact HC126.out); rintro e w53 ⟨v129, rfl, ho0, hb⟩; refine ⟨_, rfl, ?_⟩; have n0_ := d' (Kd.S_elder' (Kd.eS HO_4) (Kd.R_base ho0) hb); have n1_ := d' (Kd.R_lower ho0 (a' (eH HB))); have n2_ := d' (c' (eH HB) hb); clear HO_4; clear HB; have HO_4 := n0_; have HO130 := n1_; have HB := n2_; clear n0_ n1_ n2_; (try clear hb); (try clear hb2); (try clear hk); (try clear hi); (try clear ho0)) | ((with_reducible refine gate_dst (N := 6) rfl ?_); (try (refine gate_guard (by rfl) ?_; dsimp only)); refine box_event ?hg (N := 6) ?hd (cs := #[.int .i64 0, .slice none 0 0]) (t := 67) ?hr ?_; (case hd => rfl); (case hg => rfl); (case hr => go_simp <;> rfl); intro gb133 hg w54 hbox hb; have n0_ := d' (Kd.S_below (Kd.eS HO_4) hb); have n1_ := d' (Kd.R_below (Kd.eR HO130) hb); have n2_ := d' (c' (eH HB) hb); have n3_ := d' (hbox); have n4_ := d' ((by rw [hg]; exact (a' (eH HB)) : w.heap.size ≤ gb133)); have n5_ := d' ((by rw [hg]; exact (a' (eH HB)) : w.heap.size ≤ gb133)); clear HO_4; clear HO130; clear HB; have HO_4 := n0_; have HO130 := n1_; have HB := n2_; have BK133 := n3_; have GW133 := n4_; have GE133 := n5_; clear n0_ n1_ n2_ n3_ n4_ n5_; clear hb hbox hg; have hcz55_0 := bC BK133 0 (.int .i64 0); have hcz55_1 := bC BK133 1 (.slice none 0 0); have hfz55_0 := b' BK133.out 0; have hfz55_1 := b' BK133.out 1; obtain ⟨Ao56, co56, eo56⟩ := Kd.R_slice HO130.out; subst eo56))
      go_ret2
      exact ⟨_, eE, by (with_reducible repeat (first | apply Kd.S_alloc | apply Kd.S_drewN | apply Kd.S_drew)); exact Kd.S_mono (Kd.S_far (p := ⟨gb133, 1, none⟩) (Kd.S_far (p := ⟨gb133, 0, none⟩) (Kd.S_types HO_4.out BK133.out (by decide)) (fun _ hk => hk.2) (.int .i64 t127)) (fun _ hk => hk.2) (.slice Ao56 t128.length co56)) (fun _ hk => trivial), eH HB⟩
    ·
     rw [if_neg c4] at H
     exact absurd H (by simp)
   ·
    rw [if_neg c3] at H
    exact absurd H (by simp)
end Go.Proofs.Ytgmkgobapeencaa.S
