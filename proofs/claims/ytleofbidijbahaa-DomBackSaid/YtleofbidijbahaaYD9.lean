import Derived.Test.YtleofbidijbahaaYD0
import Derived.Test.YtleofbidijbahaaYD5
namespace Go.Proofs.Ytleofbidijbahaa.D
open Go.RowKit Go.Proofs.YtleofbidijbahaaW.PrintWords Go.Proofs.YtleofbidijbahaaW.PrintLast Go.Proofs.YtleofbidijbahaaW.PrintMore
attribute [local go_sem] max2_int min2_int max_two min_two max_three min_three max_four min_four   -- for this text's walks alone
set_option linter.unusedVariables false
set_option linter.unusedSimpArgs false
def slices_Index_int_int.l0 : Nat → List Int → Int → Int → Int → Option (Int)
 | 0, _, _, _, _ => none
 | k + 1, x0, x1, x7, x8 => if x8 < x7 then (if 0 ≤ x8 then (if x8 < (x0.length : Int) then (if x1 = (rd x0 x8) then (some x8) else (slices_Index_int_int.l0 k x0 x1 x7 (wrap64 (x8 + 1)))) else (none)) else (none)) else (some (-1))
def slices_Index_int_int.f (k : Nat) (l0 : List Int) (a1 : Int) : Option (Int) := slices_Index_int_int.l0 k l0 a1 (l0.length : Int) 0
theorem slices_Index_int_int.mono_l : ∀ k, (∀ y0 y1 y2 y3, LeO (slices_Index_int_int.l0 k y0 y1 y2 y3) (slices_Index_int_int.l0 (k + 1) y0 y1 y2 y3))
 | 0 => fun _ _ _ _ r h => by simp [slices_Index_int_int.l0] at h
 | k + 1 => by
  have ih0 := slices_Index_int_int.mono_l k
  ·
   intro y0 y1 y2 y3
   unfold slices_Index_int_int.l0
   repeat' first
   | (with_reducible exact ih0 _ _ _ _)
   | (with_reducible exact LeO.refl _)
   | (with_reducible exact LeO.none _)
   | (with_reducible refine LeO.ite ?_ ?_)
   | (with_reducible refine LeO.bind ?_ (fun _ => ?_))
   | exact ih0 _ _ _ _
   | exact LeO.none _
   | refine LeO.ite ?_ ?_
   | refine LeO.bind ?_ (fun _ => ?_)
theorem slices_Index_int_int.mono : ∀ a0 a1 k, LeO (slices_Index_int_int.f k a0 a1) (slices_Index_int_int.f (k + 1) a0 a1) := by
 intro a0 a1 k
 have ih0 := slices_Index_int_int.mono_l k
 unfold slices_Index_int_int.f
 repeat' first
   | (with_reducible exact ih0 _ _ _ _)
   | (with_reducible exact LeO.refl _)
   | (with_reducible exact LeO.none _)
   | (with_reducible refine LeO.ite ?_ ?_)
   | (with_reducible refine LeO.bind ?_ (fun _ => ?_))
   | exact ih0 _ _ _ _
   | exact LeO.none _
   | refine LeO.ite ?_ ?_
   | refine LeO.bind ?_ (fun _ => ?_)
set_option maxHeartbeats 8000000 in
set_option maxRecDepth 100000 in
theorem slices_Index_int_int.calls (k : Nat) (A0 : Option Addr) (c0 : Nat) (l0 : List Int) (a1 : Int) (r : Int) (w : World) (hr0 : Kd.C (Kd.int .i64) w A0 l0.length l0) (hc0 : l0.length ≤ c0) (h : slices_Index_int_int.f k l0 a1 = some r) :
  Calls Try.prog 100 #[.slice A0 l0.length c0, .int .i64 a1] w fun e w' => e = .returned (.int .i64 r) ∧ Drawn0 w w' := by
 have HR0 := Aside0.mk hr0
 have HC0 := Aside0.mk hc0
 clear hr0 hc0
 have H : (slices_Index_int_int.l0 k l0 a1 (l0.length : Int) 0) = some r := h
 clear h
 have H' := Aside0.mk H
 clear H
 go_enter Try.func100, Try.ntmps100
 go_wp2
 go_loopg [8] k (fun kq v8 w' => ∃ (x8_1 : Int), v8 = .int .i64 x8_1 ∧ Aside0 (slices_Index_int_int.l0 kq l0 a1 (l0.length : Int) x8_1 = some r) ∧ Aside0 (kq ≤ k) ∧ Drawn0 w w')
 case atStart => exact ⟨(0), (by first | rfl | (simp; done) | (simp [*]; done)), H', ⟨Nat.le_refl _⟩, by repeat (first | exact Drawn0.refl _ | apply Drawn0.step)⟩
 case round =>
  clear H'
  try clear c1
  try clear p2
  obtain ⟨x8_1, rfl, HA, HK1, ⟨m1, rfl⟩⟩ := hrel
  cases gk with
  | zero => exact absurd HA.out (by simp [slices_Index_int_int.l0])
  | succ k1 =>
   have H := HA.out
   clear HA
   simp only [slices_Index_int_int.l0] at H
   by_cases c3 : x8_1 < (l0.length : Int)
   ·
    rw [if_pos c3] at H
    have c3b0 : decide (x8_1 < (l0.length : Int)) = true := decide_eq_true c3
    clear c3
    by_cases c4 : 0 ≤ x8_1
    ·
     rw [if_pos c4] at H
     have c4b0 : decide (0 ≤ x8_1) = true := decide_eq_true c4
     clear c4
     by_cases c5 : x8_1 < (l0.length : Int)
     ·
      rw [if_pos c5] at H
      have c5b0 : decide (x8_1 < (l0.length : Int)) = true := decide_eq_true c5
      clear c5
      by_cases c6 : a1 = (rd l0 x8_1)
      ·
       rw [if_pos c6] at H
       have c6b0 : (a1 == (rd l0 x8_1)) = true := beq_iff_eq.mpr c6
       have c6b1 : (a1 != (rd l0 x8_1)) = false := bne_eq_false_iff_eq.mpr c6
       clear c6
       obtain rfl := Option.some.inj H
       have p122 : 0 ≤ (x8_1 : Int) := of_decide_eq_true (by first | (with_reducible assumption) | assumption)
       have q122 : x8_1 < (l0.length : Int) := of_decide_eq_true (by first | (with_reducible assumption) | assumption)
       obtain ⟨ad122, e122, hx122_0⟩ := Kd.at_int HR0.out x8_1 p122 q122
       cases e122
       replace p122 := eq_true p122
       replace q122 := eq_true q122
       go_wp2
       go_ret
       exact ⟨by first | rfl | (simp; done) | (simp [*]; done), by repeat (first | exact Drawn0.refl _ | apply Drawn0.step)⟩
      ·
       rw [if_neg c6] at H
       have c6b0 : (a1 == (rd l0 x8_1)) = false := beq_eq_false_iff_ne.mpr c6
       have c6b1 : (a1 != (rd l0 x8_1)) = true := bne_iff_ne.mpr c6
       have H' := Aside0.mk H
       clear H
       have p122 : 0 ≤ (x8_1 : Int) := of_decide_eq_true (by first | (with_reducible assumption) | assumption)
       have q122 : x8_1 < (l0.length : Int) := of_decide_eq_true (by first | (with_reducible assumption) | assumption)
       obtain ⟨ad122, e122, hx122_0⟩ := Kd.at_int HR0.out x8_1 p122 q122
       cases e122
       replace p122 := eq_true p122
       replace q122 := eq_true q122
       go_wp2
       go_roundg k1
       case measure => have := HK1.out; omega
       case rel => exact ⟨(wrap64 (x8_1 + 1)), (by first | rfl | (simp; done) | (simp [*]; done)), H', ⟨by have := HK1.out; omega⟩, by repeat (first | exact Drawn0.refl _ | apply Drawn0.step)⟩
     ·
      rw [if_neg c5] at H
      exact absurd H (by simp)
    ·
     rw [if_neg c4] at H
     exact absurd H (by simp)
   ·
    rw [if_neg c3] at H
    have c3b0 : decide (x8_1 < (l0.length : Int)) = false := decide_eq_false c3
    clear c3
    obtain rfl := Option.some.inj H
    go_wp2
    go_ret
    exact ⟨by first | rfl | (simp; done) | (simp [*]; done), by repeat (first | exact Drawn0.refl _ | apply Drawn0.step)⟩
def slices_Contains_int_int.f (k : Nat) (l0 : List Int) (a1 : Int) : Option (Bool) := (slices_Index_int_int.f k l0 a1).bind fun t123 => (some (decide (t123 ≥ 0)))
theorem slices_Contains_int_int.mono : ∀ a0 a1 k, LeO (slices_Contains_int_int.f k a0 a1) (slices_Contains_int_int.f (k + 1) a0 a1) := by
 intro a0 a1 k
 unfold slices_Contains_int_int.f
 repeat' first
   | (with_reducible exact slices_Index_int_int.mono _ _ _)
   | (with_reducible exact LeO.refl _)
   | (with_reducible exact LeO.none _)
   | (with_reducible refine LeO.ite ?_ ?_)
   | (with_reducible refine LeO.bind ?_ (fun _ => ?_))
   | exact slices_Index_int_int.mono _ _ _
   | exact LeO.none _
   | refine LeO.ite ?_ ?_
   | refine LeO.bind ?_ (fun _ => ?_)
set_option maxHeartbeats 8000000 in
set_option maxRecDepth 100000 in
theorem slices_Contains_int_int.calls (k : Nat) (A0 : Option Addr) (c0 : Nat) (l0 : List Int) (a1 : Int) (r : Bool) (w : World) (hr0 : Kd.C (Kd.int .i64) w A0 l0.length l0) (hc0 : l0.length ≤ c0) (h : slices_Contains_int_int.f k l0 a1 = some r) :
  Calls Try.prog 78 #[.slice A0 l0.length c0, .int .i64 a1] w fun e w' => e = .returned (.bool r) ∧ Drawn0 w w' := by
 have HR0 := Aside0.mk hr0
 have HC0 := Aside0.mk hc0
 clear hr0 hc0
 have H : ((slices_Index_int_int.f k l0 a1).bind fun t123 => (some (decide (t123 ≥ 0)))) = some r := h
 clear h
 replace H := Option.bind_eq_some_iff.mp H
 obtain ⟨t123, A30, H⟩ := H
 replace H : (some (decide (t123 ≥ 0))) = some r := H
 have A3 := Aside0.mk A30
 clear A30
 obtain rfl := Option.some.inj H
 go_enter Try.func78, Try.ntmps78
 go_wp2_with (first | ((with_reducible refine gate_callee (f := 100) rfl ?_); refine goesL_ (some 7) rfl rfl Try.func100 (by kernel_rfl) rfl #[.slice A0 l0.length c0, .int .i64 a1] rfl (by (try simp only [List.map_toArray, List.map_cons, List.map_nil]); first | done | rfl | (simp only [List.length_drop, List.length_take]; rfl)) ?_; (with_reducible refine (slices_Index_int_int.calls k _ _ l0 a1 t123 _ ?side1 ?side2 A3.out).mono ?_); (case side1 => repeat (first | exact HR0.out | (with_reducible refine Kd.C_alloc ?_ _) | (with_reducible refine Kd.C_drewN ?_ _) | (with_reducible refine Kd.C_drew ?_))); (case side2 => exact HC0.out); rintro e w' ⟨rfl, ⟨nd, rfl⟩⟩; refine ⟨_, rfl, ?_⟩))
 go_ret
 exact ⟨by first | rfl | (simp; done) | (simp [*]; done), by repeat (first | exact Drawn0.refl _ | apply Drawn0.step)⟩
end Go.Proofs.Ytleofbidijbahaa.D
namespace Go.Proofs.Ytleofbidijbahaa.D
open Go.RowKit Go.Proofs.YtleofbidijbahaaW.PrintWords Go.Proofs.YtleofbidijbahaaW.PrintLast Go.Proofs.YtleofbidijbahaaW.PrintMore
attribute [local go_sem] max2_int min2_int max_two min_two max_three min_three max_four min_four   -- for this text's walks alone
set_option linter.unusedVariables false
set_option linter.unusedSimpArgs false
def rootedF (ns : List S63) : Nat → Int → Bool
 | 0, p => decide (p = 0)
 | k + 1, p => if p = 0 then true else match nodeOf ns p with
  | none => false
  | some x => rootedF ns k x.f1
set_option maxRecDepth 100000 in
set_option maxHeartbeats 4000000 in
theorem rooted_is (g : Nat) (rv nv : Value) (ns : List S63) (A : Option Addr) (c : Nat) (x : S63) (B5 : Option Addr) (d5 : Nat) (B6 : Option Addr) (d6 : Nat) (w : World) (hg : w.heap[g]? = some (.cells #[.slice A ns.length c, rv, nv] 28 (0, 0))) (hC : Kd.C k63 w A ns.length ns) (hl : ns.length ≤ 100000) (hs : Rises ns) :
  Calls Try.prog 79 #[.pointer (some ⟨g, 0, none⟩), .agg #[.int .i64 x.f0, .int .i64 x.f1, .string x.f2, .string x.f3, .string x.f4, .slice B5 x.f5.length d5, .slice B6 x.f6.length d6]] w fun e w' => e = .returned (.bool (rootedF ns ns.length x.f1)) ∧ Below w.heap.size w w' := by
 have HC := Aside0.mk hC
 have HG := Aside0.mk hg
 have HS := Aside0.mk hs
 obtain ⟨n, hn⟩ : ∃ n, ns.length = n := ⟨_, rfl⟩
 have HN := Lib.hid hn
 rw [hn] at HG HC hl ⊢
 obtain ⟨R, hR⟩ : ∃ R, rootedF ns n x.f1 = R := ⟨_, rfl⟩
 rw [hR]
 have HR := Lib.hid hR
 clear hC hs hn hR hg
 have HG1 : Aside0 ((w.alloc (.cells #[.int .i64 x.f0, .int .i64 x.f1, .string x.f2, .string x.f3, .string x.f4, .slice B5 x.f5.length d5, .slice B6 x.f6.length d6] 63)).heap[g]? = some (.cells #[.slice A n c, rv, nv] 28 (0, 0))) := ⟨(Below.heap_alloc w _ g (Array.getElem?_eq_some_iff.1 HG.out).1).trans HG.out⟩
 have y0 : (w.alloc (.cells #[.int .i64 x.f0, .int .i64 x.f1, .string x.f2, .string x.f3, .string x.f4, .slice B5 x.f5.length d5, .slice B6 x.f6.length d6] 63)).cell? ⟨g, 0, none⟩ = some (.slice A n c) := blk_cell HG1.out 0
 go_enter Try.func79, Try.ntmps79
 go_wp2_with fail
 go_loopw [11] (fun vj wr => ∃ (j : Nat) (y : S63) (B5 : Option Addr) (d5 : Nat) (B6 : Option Addr) (d6 : Nat), j ≤ n ∧ vj = .int .i64 j ∧ Aside0 (rootedF ns (n - j) y.f1 = R) ∧ Aside0 (wr.heap[w.heap.size]? = some (.cells #[.int .i64 y.f0, .int .i64 y.f1, .string y.f2, .string y.f3, .string y.f4, .slice B5 y.f5.length d5, .slice B6 y.f6.length d6] 63 (0, 0))) ∧ Aside0 (Below w.heap.size w wr)) (fun vj _ => n - (intOf vj).toNat)
 case atStart => exact ⟨0, x, B5, d5, B6, d6, by omega, rfl, ⟨HR.out⟩, ⟨World.alloc_heap_new w _⟩, ⟨(Below.refl _ _).alloc (Nat.le_refl _) _⟩⟩
 case round =>
  obtain ⟨j, y, C5, i5, C6, i6, hj, rfl, HR, HK, HBR⟩ := hrel
  have hlp : w.heap.size ≤ wr.heap.size := HBR.out.size
  have HGr : Aside0 (wr.heap[g]? = some (.cells #[.slice A n c, rv, nv] 28 (0, 0))) := ⟨(HBR.out.block g (Array.getElem?_eq_some_iff.1 HG.out).1).trans HG.out⟩
  have HCr : Aside0 (Kd.C k63 wr A n ns) := ⟨Kd.C_below HC.out HBR.out⟩
  obtain ⟨z, hz⟩ : ∃ z, y.f1 = z := ⟨_, rfl⟩
  rw [hz] at HR HK
  have y1 : wr.cell? ⟨w.heap.size, 1, none⟩ = some (.int .i64 z) := blk_cell HK.out 1
  by_cases hlt : j < n
  ·
   obtain ⟨k, hk⟩ : ∃ k, n - j = k + 1 := ⟨n - j - 1, by omega⟩
   have hk2 : n - (j + 1) = k := by omega
   have hd1 : decide ((j : Int) < (n : Int)) = true := decide_eq_true (by omega)
   rw [hk, rootedF] at HR
   by_cases hz0 : z = 0
   ·
    have hr := HR.out
    rw [if_pos hz0] at hr
    have HR2 := Aside0.mk hr
    subst hz0
    clear hr HR
    go_wp2_with fail
    go_ret
    exact ⟨(show Ending.returned (.bool true) = _ by rw [← HR2.out]), HBR.out⟩
   ·
    have hr := HR.out
    rw [if_neg hz0] at hr
    have HR := Aside0.mk hr
    clear hr
    have hd0 : decide (z = 0) = false := decide_eq_false hz0
    have HCALL := Aside0.mk (find_is g rv nv ns A c z wr (by rw [HN.out]; exact HGr.out) (by rw [HN.out]; exact HCr.out) (by rw [HN.out]; exact hl) HS.out)
    cases hno : nodeOf ns z with
    | none =>
     rw [findV_none hno] at HCALL
     rw [hno] at HR
     go_wp2_with fail
     refine HCALL.out.mono ?_
     rintro e w5 ⟨rfl, hb5⟩
     have HB5 := Aside0.mk (HBR.out.trans (hb5.mono hlp))
     clear hb5 HCALL
     go_wp2_with fail
     go_ret
     exact ⟨(show Ending.returned (.bool false) = _ by rw [← HR.out]), HB5.out⟩
    | some x =>
     obtain ⟨ad, L, A5, c5, A6, c6, rfl, -, -, -, -, hfv, e0, e1, e2, e3, e4, e5, e6, -⟩ := findV_some HCr.out HN.out hno
     rw [hfv] at HCALL
     rw [hno] at HR
     go_wp2_with fail
     refine HCALL.out.mono ?_
     rintro e w5 ⟨rfl, hb5⟩
     have HB5 := Aside0.mk (HBR.out.trans (hb5.mono hlp))
     replace e0 := pw_cell_below hb5 e0
     replace e1 := pw_cell_below hb5 e1
     replace e2 := pw_cell_below hb5 e2
     replace e3 := pw_cell_below hb5 e3
     replace e4 := pw_cell_below hb5 e4
     replace e5 := pw_cell_below hb5 e5
     replace e6 := pw_cell_below hb5 e6
     have HK5 := Aside0.mk ((hb5.block _ (blk_lt HK.out)).trans HK.out)
     have q0 : w5.cell? ⟨w.heap.size, 0, none⟩ = _ := blk_cell HK5.out 0
     have t0 : w5.frozen? ⟨w.heap.size, 0, none⟩ = false := blk_frozen HK5.out 0
     have q1 : w5.cell? ⟨w.heap.size, 1, none⟩ = _ := blk_cell HK5.out 1
     have t1 : w5.frozen? ⟨w.heap.size, 1, none⟩ = false := blk_frozen HK5.out 1
     have q2 : w5.cell? ⟨w.heap.size, 2, none⟩ = _ := blk_cell HK5.out 2
     have t2 : w5.frozen? ⟨w.heap.size, 2, none⟩ = false := blk_frozen HK5.out 2
     have q3 : w5.cell? ⟨w.heap.size, 3, none⟩ = _ := blk_cell HK5.out 3
     have t3 : w5.frozen? ⟨w.heap.size, 3, none⟩ = false := blk_frozen HK5.out 3
     have q4 : w5.cell? ⟨w.heap.size, 4, none⟩ = _ := blk_cell HK5.out 4
     have t4 : w5.frozen? ⟨w.heap.size, 4, none⟩ = false := blk_frozen HK5.out 4
     have q5 : w5.cell? ⟨w.heap.size, 5, none⟩ = _ := blk_cell HK5.out 5
     have t5 : w5.frozen? ⟨w.heap.size, 5, none⟩ = false := blk_frozen HK5.out 5
     have q6 : w5.cell? ⟨w.heap.size, 6, none⟩ = _ := blk_cell HK5.out 6
     have t6 : w5.frozen? ⟨w.heap.size, 6, none⟩ = false := blk_frozen HK5.out 6
     have HB6 := Aside0.mk (((((((HB5.out.setCell (p := ⟨w.heap.size, 0, none⟩) (Nat.le_refl _) (.int .i64 x.f0)).setCell (p := ⟨w.heap.size, 1, none⟩) (Nat.le_refl _) (.int .i64 x.f1)).setCell (p := ⟨w.heap.size, 2, none⟩) (Nat.le_refl _) (.string x.f2)).setCell (p := ⟨w.heap.size, 3, none⟩) (Nat.le_refl _) (.string x.f3)).setCell (p := ⟨w.heap.size, 4, none⟩) (Nat.le_refl _) (.string x.f4)).setCell (p := ⟨w.heap.size, 5, none⟩) (Nat.le_refl _) (.slice A5 x.f5.length c5)).setCell (p := ⟨w.heap.size, 6, none⟩) (Nat.le_refl _) (.slice A6 x.f6.length c6))
     have HK6 := Aside0.mk (blk_set (blk_set (blk_set (blk_set (blk_set (blk_set (blk_set HK5.out 0 (.int .i64 x.f0)) 1 (.int .i64 x.f1)) 2 (.string x.f2)) 3 (.string x.f3)) 4 (.string x.f4)) 5 (.slice A5 x.f5.length c5)) 6 (.slice A6 x.f6.length c6))
     clear hb5 HCALL
     go_wp2_with fail
     exact ⟨⟨j + 1, x, A5, c5, A6, c6, by omega, rfl, ⟨by rw [hk2]; exact HR.out⟩, ⟨HK6.out⟩, HB6⟩, by simp only [intOf]; omega⟩
  ·
   obtain rfl : j = n := by omega
   have hd1 : decide ((j : Int) < (j : Int)) = false := decide_eq_false (by omega)
   go_wp2_with fail
   go_ret
   have hr := HR.out
   rw [show j - j = 0 by omega, rootedF] at hr
   exact ⟨(show Ending.returned (.bool (z == 0)) = _ by rw [← hr]; rfl), HBR.out⟩
end Go.Proofs.Ytleofbidijbahaa.D
