import Derived.Test.YtleofbidijbahaaYD0
import Derived.Test.YtleofbidijbahaaYD2
import Derived.Test.YtleofbidijbahaaYD37
import Derived.Test.YtleofbidijbahaaYD44
import Derived.Test.YtleofbidijbahaaYD47
import Derived.Test.YtleofbidijbahaaYD49
import Derived.Test.YtleofbidijbahaaYD52
import Derived.Test.YtleofbidijbahaaYDomEv
namespace Go.Proofs.Ytleofbidijbahaa.D
open Go.Proofs.YtleofbidijbahaaW.PrintWords renaming blk_frozen → b', blk_cell → c', blk_below → d', below_step → f'
open Go.Proofs.YtleofbidijbahaaW.PrintWords.Kd renaming S_far → e'
open List renaming setIfInBounds_toArray → g', set_cons_zero → h', set_cons_succ → j', map_toArray → k', map_cons → l', map_nil → m', length_drop → n', length_take → o'
open Go.Proofs.YtleofbidijbahaaW.PrintWords.Aside0 renaming mk → p'
open Bool renaming true → Y, false → Z
open Go.RowKit Go.Proofs.YtleofbidijbahaaW.PrintWords Go.Proofs.YtleofbidijbahaaW.PrintLast Go.Proofs.YtleofbidijbahaaW.PrintMore
attribute [local go_sem] max2_int min2_int max_two min_two max_three min_three max_four min_four   -- for this text's walks alone
set_option linter.unusedVariables false
set_option linter.unusedSimpArgs false
mutual
def fanlightlaw10_DomBack.j0 : Nat → Int → Int → Int → Int → Bool → List (S64) → Int → Int → Option (Bool)
 | 0, _, _, _, _, _, _, _, _ => none
 | k + 1, x1, x2, x3, x9, x36, x398000, x398001, x398002 => if x36 = true then (some true) else (if 0 ≤ x9 then (if x9 < (x398000.length : Int) then ((fanlightref10_Place.f k x398000 x398001 x398002 ((rd_T64 x398000 x9).f1)).bind fun t403 => (if 0 ≤ t403 then (if t403 < (x398000.length : Int) then (fanlightlaw10_DomBack.l0 k x1 x2 x3 0 x398000 x398001 x398002 ((rd_T64 x398000 t403).f0) ((rd_T64 x398000 t403).f1) ((rd_T64 x398000 t403).f2) ((rd_T64 x398000 t403).f3) ((rd_T64 x398000 t403).f4) ((rd_T64 x398000 t403).f5) ((rd_T64 x398000 t403).f6)) else (none)) else (none))) else (none)) else (none))
def fanlightlaw10_DomBack.l0 : Nat → Int → Int → Int → Int → List (S64) → Int → Int → Int → Int → ByteArray → ByteArray → ByteArray → List (S68) → List Int → Option (Bool)
 | 0, _, _, _, _, _, _, _, _, _, _, _, _, _, _ => none
 | k + 1, x1, x2, x3, x11, x398000, x398001, x398002, x406000, x406001, x406002, x406003, x406004, x406005, x406006 => if 0 ≤ x11 then (if x11 < (x406006.length : Int) then (if (rd x406006 x11) = x1 then ((fanlightlaw10_Of.f k x398000 x398001 x398002).bind fun bt407 => ((dom_Apply.f bt407.1 bt407.2.1 bt407.2.2 2 x1 x2 x3 (⟨#[]⟩ : ByteArray) (⟨#[]⟩ : ByteArray) (⟨#[]⟩ : ByteArray) (⟨#[]⟩ : ByteArray) (⟨#[]⟩ : ByteArray)).bind fun bt412 => ((fanlightlaw10_num.f bt412.2.2.2).bind fun t419 => (if t419 = 0 then ((dom_Apply.f bt412.1 bt412.2.1 bt412.2.2.1 2 x1 x406000 x11 (⟨#[]⟩ : ByteArray) (⟨#[]⟩ : ByteArray) (⟨#[]⟩ : ByteArray) (⟨#[]⟩ : ByteArray) (⟨#[]⟩ : ByteArray)).bind fun bt420 => ((fanlightlaw10_num.f bt420.2.2.2).bind fun t427 => (if t427 = 0 then ((fanlightlaw10_Alike.f bt420.1 bt420.2.1 bt420.2.2.1 x398000 x398001 x398002).bind fun t428 => (some (t428 == 0))) else (some false)))) else (some ((bt412.1.length : Int) == 0)))))) else (fanlightlaw10_DomBack.l0 k x1 x2 x3 (wrap64 (x11 + 1)) x398000 x398001 x398002 x406000 x406001 x406002 x406003 x406004 x406005 x406006)) else (none)) else (none)
end
def fanlightlaw10_DomBack.f (k : Nat) (l0_0 : List (S64)) (a0_1 : Int) (a0_2 : Int) (a1 : Int) (a2 : Int) (a3 : Int) : Option (Bool) := (fanlightlaw10_alive.f).bind fun t398 => (if t398 = true then ((fanlightref10_Place.f k l0_0 a0_1 a0_2 a1).bind fun t399 => ((fanlightref10_Check.f l0_0 a0_1 a0_2).bind fun t400 => (if t400 = 0 then (if t399 < 0 then (fanlightlaw10_DomBack.j0 k a1 a2 a3 t399 true l0_0 a0_1 a0_2) else (if 0 ≤ t399 then (if t399 < (l0_0.length : Int) then (fanlightlaw10_DomBack.j0 k a1 a2 a3 t399 (((rd_T64 l0_0 t399).f1) == 0) l0_0 a0_1 a0_2) else (none)) else (none))) else (fanlightlaw10_DomBack.j0 k a1 a2 a3 t399 true l0_0 a0_1 a0_2)))) else (some false))
theorem fanlightlaw10_DomBack.mono_l : ∀ k, (∀ y0 y1 y2 y3 y4 y5 y6 y7, LeO (fanlightlaw10_DomBack.j0 k y0 y1 y2 y3 y4 y5 y6 y7) (fanlightlaw10_DomBack.j0 (k + 1) y0 y1 y2 y3 y4 y5 y6 y7)) ∧ (∀ y0 y1 y2 y3 y4 y5 y6 y7 y8 y9 y10 y11 y12 y13, LeO (fanlightlaw10_DomBack.l0 k y0 y1 y2 y3 y4 y5 y6 y7 y8 y9 y10 y11 y12 y13) (fanlightlaw10_DomBack.l0 (k + 1) y0 y1 y2 y3 y4 y5 y6 y7 y8 y9 y10 y11 y12 y13))
 | 0 => ⟨fun _ _ _ _ _ _ _ _ r h => by simp [fanlightlaw10_DomBack.j0] at h, fun _ _ _ _ _ _ _ _ _ _ _ _ _ _ r h => by simp [fanlightlaw10_DomBack.l0] at h⟩
 | k + 1 => by
  obtain ⟨ih0, ih1⟩ := fanlightlaw10_DomBack.mono_l k
  refine ⟨?_, ?_⟩
  ·
   intro y0 y1 y2 y3 y4 y5 y6 y7
   unfold fanlightlaw10_DomBack.j0
   repeat' first
   | (with_reducible exact ih0 _ _ _ _ _ _ _ _)
   | (with_reducible exact ih1 _ _ _ _ _ _ _ _ _ _ _ _ _ _)
   | (with_reducible exact fanlightlaw10_Of.mono _ _ _ _)
   | (with_reducible exact fanlightref10_Place.mono _ _ _ _ _)
   | (with_reducible exact LeO.refl _)
   | (with_reducible exact LeO.none _)
   | (with_reducible refine LeO.ite ?_ ?_)
   | (with_reducible refine LeO.bind ?_ (fun _ => ?_))
   | exact ih0 _ _ _ _ _ _ _ _
   | exact ih1 _ _ _ _ _ _ _ _ _ _ _ _ _ _
   | exact fanlightlaw10_Of.mono _ _ _ _
   | exact fanlightref10_Place.mono _ _ _ _ _
   | exact LeO.none _
   | refine LeO.ite ?_ ?_
   | refine LeO.bind ?_ (fun _ => ?_)
  ·
   intro y0 y1 y2 y3 y4 y5 y6 y7 y8 y9 y10 y11 y12 y13
   unfold fanlightlaw10_DomBack.l0
   repeat' first
   | (with_reducible exact ih0 _ _ _ _ _ _ _ _)
   | (with_reducible exact ih1 _ _ _ _ _ _ _ _ _ _ _ _ _ _)
   | (with_reducible exact fanlightlaw10_Of.mono _ _ _ _)
   | (with_reducible exact fanlightref10_Place.mono _ _ _ _ _)
   | (with_reducible exact LeO.refl _)
   | (with_reducible exact LeO.none _)
   | (with_reducible refine LeO.ite ?_ ?_)
   | (with_reducible refine LeO.bind ?_ (fun _ => ?_))
   | exact ih0 _ _ _ _ _ _ _ _
   | exact ih1 _ _ _ _ _ _ _ _ _ _ _ _ _ _
   | exact fanlightlaw10_Of.mono _ _ _ _
   | exact fanlightref10_Place.mono _ _ _ _ _
   | exact LeO.none _
   | refine LeO.ite ?_ ?_
   | refine LeO.bind ?_ (fun _ => ?_)
theorem fanlightlaw10_DomBack.mono : ∀ a0 a1 a2 a3 a4 a5 k, LeO (fanlightlaw10_DomBack.f k a0 a1 a2 a3 a4 a5) (fanlightlaw10_DomBack.f (k + 1) a0 a1 a2 a3 a4 a5) := by
 intro a0 a1 a2 a3 a4 a5 k
 obtain ⟨ih0, ih1⟩ := fanlightlaw10_DomBack.mono_l k
 unfold fanlightlaw10_DomBack.f
 repeat' first
   | (with_reducible exact ih0 _ _ _ _ _ _ _ _)
   | (with_reducible exact ih1 _ _ _ _ _ _ _ _ _ _ _ _ _ _)
   | (with_reducible exact fanlightlaw10_Of.mono _ _ _ _)
   | (with_reducible exact fanlightref10_Place.mono _ _ _ _ _)
   | (with_reducible exact LeO.refl _)
   | (with_reducible exact LeO.none _)
   | (with_reducible refine LeO.ite ?_ ?_)
   | (with_reducible refine LeO.bind ?_ (fun _ => ?_))
   | exact ih0 _ _ _ _ _ _ _ _
   | exact ih1 _ _ _ _ _ _ _ _ _ _ _ _ _ _
   | exact fanlightlaw10_Of.mono _ _ _ _
   | exact fanlightref10_Place.mono _ _ _ _ _
   | exact LeO.none _
   | refine LeO.ite ?_ ?_
   | refine LeO.bind ?_ (fun _ => ?_)
def fanlightlaw10_DomBack.T6 : Bool × List (List Nat × List Nat) := (true, [([], []), ([0], [0]), ([], []), ([], []), ([3], [3]), ([], []), ([4, 5], [4, 5]), ([6], [6]), ([7], [7]), ([2, 8], [2, 8]), ([1, 9], [1, 9]), ([10], [10]), ([], []), ([12, 11, 9, 0, 1, 2, 3, 4, 5, 6, 7, 8, 9, 10, 11, 12], [11, 12])])
def fanlightlaw10_DomBack.B6 : List Nat := [0, 1, 0, 0, 8, 0, 56, 120, 248, 508, 1023, 2047, 0, 8191]
theorem fanlightlaw10_DomBack.tab6 : rtab .any (opsOf Try.f6 6) = fanlightlaw10_DomBack.T6 := by kernel_rfl
theorem fanlightlaw10_DomBack.bits6 : waitsOk fanlightlaw10_DomBack.T6.2 fanlightlaw10_DomBack.B6 = true := by kernel_rfl
set_option maxHeartbeats 8000000 in
set_option maxRecDepth 100000 in
theorem fanlightlaw10_DomBack.calls (k : Nat) (A0_0 : Option Addr) (c0_0 : Nat) (l0_0 : List (S64)) (a0_1 : Int) (a0_2 : Int) (a1 : Int) (a2 : Int) (a3 : Int) (r : Bool) (w : World) (hr0_0 : Kd.C k64 w A0_0 l0_0.length l0_0) (hc0_0 : l0_0.length ≤ c0_0) (h : fanlightlaw10_DomBack.f k l0_0 a0_1 a0_2 a1 a2 a3 = some r) (hT : r = true) (hA : ∀ (r : Bool), fanlightlaw10_alive.f = some r → r = true) :
  Calls Try.prog 6 #[.agg #[.slice A0_0 l0_0.length c0_0, .int .i64 a0_1, .int .i64 a0_2], .int .i64 a1, .int .i64 a2, .int .i64 a3] w fun e w' => e = .returned (.bool r) ∧ Below w.heap.size w w' := by
 have hu24 := Try.underlying24
 have hu64 := Try.underlying64
 have hu45 := Try.underlying45
 have hu28 := Try.underlying28
 have HR0_0 := p' hr0_0
 have HC0_0 := p' hc0_0
 clear hr0_0 hc0_0
 have HB := p' (Below.refl w.heap.size w)
 have H : ((fanlightlaw10_alive.f).bind fun t398 => (if t398 = true then ((fanlightref10_Place.f k l0_0 a0_1 a0_2 a1).bind fun t399 => ((fanlightref10_Check.f l0_0 a0_1 a0_2).bind fun t400 => (if t400 = 0 then (if t399 < 0 then (fanlightlaw10_DomBack.j0 k a1 a2 a3 t399 true l0_0 a0_1 a0_2) else (if 0 ≤ t399 then (if t399 < (l0_0.length : Int) then (fanlightlaw10_DomBack.j0 k a1 a2 a3 t399 (((rd_T64 l0_0 t399).f1) == 0) l0_0 a0_1 a0_2) else (none)) else (none))) else (fanlightlaw10_DomBack.j0 k a1 a2 a3 t399 true l0_0 a0_1 a0_2)))) else (some false))) = some r := h
 clear h
 replace H := Option.bind_eq_some_iff.mp H
 obtain ⟨t398, A50, H⟩ := H
 (try dsimp only at H)
 have A5 := p' A50
 clear A50
 by_cases c6 : t398 = true
 ·
  subst c6
  have H1 : ((fanlightref10_Place.f k l0_0 a0_1 a0_2 a1).bind fun t399 => ((fanlightref10_Check.f l0_0 a0_1 a0_2).bind fun t400 => (if t400 = 0 then (if t399 < 0 then (fanlightlaw10_DomBack.j0 k a1 a2 a3 t399 true l0_0 a0_1 a0_2) else (if 0 ≤ t399 then (if t399 < (l0_0.length : Int) then (fanlightlaw10_DomBack.j0 k a1 a2 a3 t399 (((rd_T64 l0_0 t399).f1) == 0) l0_0 a0_1 a0_2) else (none)) else (none))) else (fanlightlaw10_DomBack.j0 k a1 a2 a3 t399 true l0_0 a0_1 a0_2)))) = some r := by rw [if_pos rfl] at H; exact H
  clear H
  have H := H1
  clear H1
  replace H := Option.bind_eq_some_iff.mp H
  obtain ⟨t399, A70, H⟩ := H
  (try dsimp only at H)
  have A7 := p' A70
  clear A70
  have HC8 := p' H
  clear H
  go_enter Try.func6, Try.ntmps6
  go_upto_region 4 with (first | ((with_reducible refine gate_dst (N := 4) rfl ?_); refine box_event ?hg (N := 4) ?hd (cs := #[.slice A0_0 l0_0.length c0_0, .int .i64 a0_1, .int .i64 a0_2]) (t := 24) ?hr ?_; (case hd => rfl); (case hg => rfl); (case hr => first | (go_simp; done) | (go_simp; rfl)); intro gb397 hg w9 hbox hb; have n0_ := p' (f' (eH HB) hb); have n1_ := p' (hbox); have n2_ := p' ((by rw [hg]; exact (below_size (eH HB)) : w.heap.size ≤ gb397)); have n3_ := p' ((by rw [hg]; exact (below_size (eH HB)) : w.heap.size ≤ gb397)); clear HB; have HB := n0_; have BK397 := n1_; have GW397 := n2_; have GE397 := n3_; clear n0_ n1_ n2_ n3_; clear hb hbox hg) | ((with_reducible refine gate_callee (f := 17) rfl ?_); refine goesL_ (some 16) rfl rfl Try.func17 (by kernel_rfl) rfl #[] rfl (by (try simp only [k', l', m']); first | done | rfl | (simp only [n', o']; rfl)) ?_; (with_reducible refine (fanlightlaw10_alive.calls  true _ A5.out (hA _ A5.out)).mono ?_); rintro e w10 ⟨rfl, hb⟩; refine ⟨_, rfl, ?_⟩; have n0_ := p' (d' (g := gb397) (o := .cells #[.slice A0_0 l0_0.length c0_0, .int .i64 a0_1, .int .i64 a0_2] 24 (0, 0)) (eB BK397) hb); have n1_ := p' (f' (eH HB) hb); clear BK397; clear HB; have BK397 := n0_; have HB := n1_; clear n0_ n1_; (try clear hb); (try clear hb2); (try clear hk); (try clear hi); have hcz11_0 : w10.cell? ⟨gb397, 0, none⟩ = some (.slice A0_0 l0_0.length c0_0) := (c' BK397.out 0).trans rfl; have hcz11_1 : w10.cell? ⟨gb397, 1, none⟩ = some (.int .i64 a0_1) := (c' BK397.out 1).trans rfl; have hcz11_2 : w10.cell? ⟨gb397, 2, none⟩ = some (.int .i64 a0_2) := (c' BK397.out 2).trans rfl; have hfz11_0 := b' BK397.out 0; have hfz11_1 := b' BK397.out 1; have hfz11_2 := b' BK397.out 2) | ((with_reducible refine gate_callee (f := 25) rfl ?_); refine goesL_ (some 20) rfl rfl Try.func25 (by kernel_rfl) rfl #[.agg #[.slice A0_0 l0_0.length c0_0, .int .i64 a0_1, .int .i64 a0_2], .int .i64 a1] rfl (by (try simp only [k', l', m']); first | done | rfl | (simp only [n', o']; rfl)) ?_; (with_reducible refine (fanlightref10_Place.calls k _ _ l0_0 a0_1 a0_2 a1 t399 _ ?side1 ?side2 A7.out).mono ?_); (case side1 => exact Kd.eC HR0_0 HB); (case side2 => exact HC0_0.out); rintro e w12 ⟨rfl, hb⟩; refine ⟨_, rfl, ?_⟩; have n0_ := p' (d' (g := gb397) (o := .cells #[.slice A0_0 l0_0.length c0_0, .int .i64 a0_1, .int .i64 a0_2] 24 (0, 0)) (eB BK397) hb); have n1_ := p' (f' (eH HB) hb); clear BK397; clear HB; have BK397 := n0_; have HB := n1_; clear n0_ n1_; (try clear hb); (try clear hb2); (try clear hk); (try clear hi)))
  (try simp only [Act.put, g', h', j'])
  go_cut [36] (fun v36 wc => ∃ (kq : Nat) (x36_7 : Bool), v36 = .bool x36_7 ∧ Aside0 (fanlightlaw10_DomBack.j0 kq a1 a2 a3 t399 x36_7 l0_0 a0_1 a0_2 = some r) ∧ Aside0 (kq ≤ k) ∧ Aside0 (wc.heap[gb397]? = some (.cells #[(.slice A0_0 l0_0.length c0_0), .int .i64 a0_1, .int .i64 a0_2] 24 (0, 0))) ∧ Aside0 (Below w.heap.size w wc))
  case first =>
   have H := HC8.out
   clear HC8
   replace H := Option.bind_eq_some_iff.mp H
   obtain ⟨t400, A130, H⟩ := H
   (try dsimp only at H)
   have A13 := p' A130
   clear A130
   by_cases c14 : t400 = 0
   ·
    rw [if_pos c14] at H
    have c14b0 : (t400 == 0) = true := beq_iff_eq.mpr c14
    have c14b1 : (t400 != 0) = false := bne_eq_false_iff_eq.mpr c14
    clear c14
    (first | rw [c14b0] | (simp only [i64_w, i32_w]; rw [c14b0]) | rw [c14b1] | skip)
    by_cases c15 : t399 < 0
    ·
     rw [if_pos c15] at H
     have c15b0 : decide (t399 < 0) = true := decide_eq_true c15
     clear c15
     have H' := p' H
     clear H
     have hcz16_0 : w12.cell? ⟨gb397, 0, none⟩ = some (.slice A0_0 l0_0.length c0_0) := (c' BK397.out 0).trans rfl
     have hcz16_1 : w12.cell? ⟨gb397, 1, none⟩ = some (.int .i64 a0_1) := (c' BK397.out 1).trans rfl
     have hcz16_2 : w12.cell? ⟨gb397, 2, none⟩ = some (.int .i64 a0_2) := (c' BK397.out 2).trans rfl
     have hfz16_0 := b' BK397.out 0
     have hfz16_1 := b' BK397.out 1
     have hfz16_2 := b' BK397.out 2
     go_wp2_with (first | ((with_reducible refine gate_callee (f := 24) rfl ?_); refine goesL_ (some 22) rfl rfl Try.func24 (by kernel_rfl) rfl #[.agg #[.slice A0_0 l0_0.length c0_0, .int .i64 a0_1, .int .i64 a0_2]] rfl (by (try simp only [k', l', m']); first | done | rfl | (simp only [n', o']; rfl)) ?_; (with_reducible refine (fanlightref10_Check.calls _ _ l0_0 a0_1 a0_2 t400 _ ?side1 ?side2 A13.out).mono ?_); (case side1 => exact Kd.eC HR0_0 HB); (case side2 => exact HC0_0.out); rintro e w17 ⟨rfl, hb⟩; refine ⟨_, rfl, ?_⟩; have n0_ := p' (d' (g := gb397) (o := .cells #[.slice A0_0 l0_0.length c0_0, .int .i64 a0_1, .int .i64 a0_2] 24 (0, 0)) (eB BK397) hb); have n1_ := p' (f' (eH HB) hb); clear BK397; clear HB; have BK397 := n0_; have HB := n1_; clear n0_ n1_; (try clear hb); (try clear hb2); (try clear hk); (try clear hi)))
     go_meet
     case rel => exact ⟨_, (true), (by first | rfl | (simp; done) | (simp [*]; done)), H', ⟨by first | omega | exact Nat.le_refl _⟩, ⟨eB BK397⟩, ⟨eH HB⟩⟩
    ·
     rw [if_neg c15] at H
     have c15b0 : decide (t399 < 0) = false := decide_eq_false c15
     clear c15
     by_cases c18 : 0 ≤ t399
     ·
      rw [if_pos c18] at H
      have c18b0 : decide (0 ≤ t399) = true := decide_eq_true c18
      clear c18
      by_cases c19 : t399 < (l0_0.length : Int)
      ·
       rw [if_pos c19] at H
       have c19b0 : decide (t399 < (l0_0.length : Int)) = true := decide_eq_true c19
       clear c19
       have H' := p' H
       clear H
       have hcz20_0 : w12.cell? ⟨gb397, 0, none⟩ = some (.slice A0_0 l0_0.length c0_0) := (c' BK397.out 0).trans rfl
       have hcz20_1 : w12.cell? ⟨gb397, 1, none⟩ = some (.int .i64 a0_1) := (c' BK397.out 1).trans rfl
       have hcz20_2 : w12.cell? ⟨gb397, 2, none⟩ = some (.int .i64 a0_2) := (c' BK397.out 2).trans rfl
       have hfz20_0 := b' BK397.out 0
       have hfz20_1 := b' BK397.out 1
       have hfz20_2 := b' BK397.out 2
       go_wp2_with (first | ((with_reducible refine gate_callee (f := 24) rfl ?_); refine goesL_ (some 22) rfl rfl Try.func24 (by kernel_rfl) rfl #[.agg #[.slice A0_0 l0_0.length c0_0, .int .i64 a0_1, .int .i64 a0_2]] rfl (by (try simp only [k', l', m']); first | done | rfl | (simp only [n', o']; rfl)) ?_; (with_reducible refine (fanlightref10_Check.calls _ _ l0_0 a0_1 a0_2 t400 _ ?side1 ?side2 A13.out).mono ?_); (case side1 => exact Kd.eC HR0_0 HB); (case side2 => exact HC0_0.out); rintro e w21 ⟨rfl, hb⟩; refine ⟨_, rfl, ?_⟩; have n0_ := p' (d' (g := gb397) (o := .cells #[.slice A0_0 l0_0.length c0_0, .int .i64 a0_1, .int .i64 a0_2] 24 (0, 0)) (eB BK397) hb); have n1_ := p' (f' (eH HB) hb); clear BK397; clear HB; have BK397 := n0_; have HB := n1_; clear n0_ n1_; (try clear hb); (try clear hb2); (try clear hk); (try clear hi); have hcz22_0 : w21.cell? ⟨gb397, 0, none⟩ = some (.slice A0_0 l0_0.length c0_0) := (c' BK397.out 0).trans rfl; have hcz22_1 : w21.cell? ⟨gb397, 1, none⟩ = some (.int .i64 a0_1) := (c' BK397.out 1).trans rfl; have hcz22_2 : w21.cell? ⟨gb397, 2, none⟩ = some (.int .i64 a0_2) := (c' BK397.out 2).trans rfl; have hfz22_0 := b' BK397.out 0; have hfz22_1 := b' BK397.out 1; have hfz22_2 := b' BK397.out 2; have p401 : 0 ≤ (t399 : Int) := of_decide_eq_true (by first | (with_reducible assumption) | assumption); have q401 : t399 < (l0_0.length : Int) := of_decide_eq_true (by first | (with_reducible assumption) | assumption); obtain ⟨ad401, A401_5, c401_5, A401_6, c401_6, e401, hx401_0, hx401_1, hx401_2, hx401_3, hx401_4, hx401_5, hx401_6, hl401_5, hi401_5, hl401_6, hi401_6⟩ := at_T64 HR0_0.out t399 p401 q401; cases e401; replace hx401_0 := (HB.out.cell (World.block_lt_of_cell? w _ hx401_0)).trans hx401_0; replace hx401_1 := (HB.out.cell (World.block_lt_of_cell? w _ hx401_1)).trans hx401_1; replace hx401_2 := (HB.out.cell (World.block_lt_of_cell? w _ hx401_2)).trans hx401_2; replace hx401_3 := (HB.out.cell (World.block_lt_of_cell? w _ hx401_3)).trans hx401_3; replace hx401_4 := (HB.out.cell (World.block_lt_of_cell? w _ hx401_4)).trans hx401_4; replace hx401_5 := (HB.out.cell (World.block_lt_of_cell? w _ hx401_5)).trans hx401_5; replace hx401_6 := (HB.out.cell (World.block_lt_of_cell? w _ hx401_6)).trans hx401_6; have HR401_5 := p' hi401_5; have HC401_5 := p' hl401_5; clear hi401_5 hl401_5; have HR401_6 := p' hi401_6; have HC401_6 := p' hl401_6; clear hi401_6 hl401_6; replace p401 := eq_true p401; replace q401 := eq_true q401))
       go_meet
       case rel => exact ⟨_, ((((rd_T64 l0_0 t399).f1) == 0)), (by first | rfl | (simp; done) | (simp [*]; done)), H', ⟨by first | omega | exact Nat.le_refl _⟩, ⟨eB BK397⟩, ⟨eH HB⟩⟩
      ·
       rw [if_neg c19] at H
       exact absurd H (by simp)
     ·
      rw [if_neg c18] at H
      exact absurd H (by simp)
   ·
    rw [if_neg c14] at H
    have c14b0 : (t400 == 0) = false := beq_eq_false_iff_ne.mpr c14
    have c14b1 : (t400 != 0) = true := bne_iff_ne.mpr c14
    (first | rw [c14b0] | (simp only [i64_w, i32_w]; rw [c14b0]) | rw [c14b1] | skip)
    have H' := p' H
    clear H
    have hcz23_0 : w12.cell? ⟨gb397, 0, none⟩ = some (.slice A0_0 l0_0.length c0_0) := (c' BK397.out 0).trans rfl
    have hcz23_1 : w12.cell? ⟨gb397, 1, none⟩ = some (.int .i64 a0_1) := (c' BK397.out 1).trans rfl
    have hcz23_2 : w12.cell? ⟨gb397, 2, none⟩ = some (.int .i64 a0_2) := (c' BK397.out 2).trans rfl
    have hfz23_0 := b' BK397.out 0
    have hfz23_1 := b' BK397.out 1
    have hfz23_2 := b' BK397.out 2
    go_wp2_with (first | ((with_reducible refine gate_callee (f := 24) rfl ?_); refine goesL_ (some 22) rfl rfl Try.func24 (by kernel_rfl) rfl #[.agg #[.slice A0_0 l0_0.length c0_0, .int .i64 a0_1, .int .i64 a0_2]] rfl (by (try simp only [k', l', m']); first | done | rfl | (simp only [n', o']; rfl)) ?_; (with_reducible refine (fanlightref10_Check.calls _ _ l0_0 a0_1 a0_2 t400 _ ?side1 ?side2 A13.out).mono ?_); (case side1 => exact Kd.eC HR0_0 HB); (case side2 => exact HC0_0.out); rintro e w24 ⟨rfl, hb⟩; refine ⟨_, rfl, ?_⟩; have n0_ := p' (d' (g := gb397) (o := .cells #[.slice A0_0 l0_0.length c0_0, .int .i64 a0_1, .int .i64 a0_2] 24 (0, 0)) (eB BK397) hb); have n1_ := p' (f' (eH HB) hb); clear BK397; clear HB; have BK397 := n0_; have HB := n1_; clear n0_ n1_; (try clear hb); (try clear hb2); (try clear hk); (try clear hi)))
    go_meet
    case rel => exact ⟨_, (true), (by first | rfl | (simp; done) | (simp [*]; done)), H', ⟨by first | omega | exact Nat.le_refl _⟩, ⟨eB BK397⟩, ⟨eH HB⟩⟩
  case rest =>
   clear HC8
   try clear c1
   try clear c2
   try clear p2
   try clear c4
   try clear p4
   try clear q4
   try clear hx4
   try clear c6
   try clear c14
   try clear c14b0
   try clear c14b1
   try clear c15
   try clear c15b0
   try clear c17
   try clear c18
   try clear c18b0
   try clear c19
   try clear c19b0
   try clear c24
   try clear hcz11_0
   try clear hcz11_1
   try clear hcz11_2
   try clear hcz16_0
   try clear hcz16_1
   try clear hcz16_2
   try clear hcz20_0
   try clear hcz20_1
   try clear hcz20_2
   try clear hcz22_0
   try clear hcz22_1
   try clear hcz22_2
   try clear hcz23_0
   try clear hcz23_1
   try clear hcz23_2
   try clear hfz11_0
   try clear hfz11_1
   try clear hfz11_2
   try clear hfz16_0
   try clear hfz16_1
   try clear hfz16_2
   try clear hfz20_0
   try clear hfz20_1
   try clear hfz20_2
   try clear hfz22_0
   try clear hfz22_1
   try clear hfz22_2
   try clear hfz23_0
   try clear hfz23_1
   try clear hfz23_2
   try clear hx401_0
   try clear hx401_1
   try clear hx401_2
   try clear hx401_3
   try clear hx401_4
   try clear hx401_5
   try clear hx401_6
   try clear p401
   try clear q401
   obtain ⟨kq, x36_7, rfl, HA, HJ7, BK397, HB⟩ := hcut
   cases kq with
   | zero => exact absurd HA.out (by simp [fanlightlaw10_DomBack.j0])
   | succ kj7 =>
    have H := HA.out
    clear HA
    simp only [fanlightlaw10_DomBack.j0] at H
    by_cases c25 : x36_7 = true
    ·
     subst c25
     have H1 : (some true) = some r := by rw [if_pos rfl] at H; exact H
     clear H
     have H := H1
     clear H1
     obtain rfl := Option.some.inj H
     go_wp2
     go_ret
     exact ⟨by first | rfl | (simp [errW_none, errW_some] <;> rfl) | (simp [*, errW_none, errW_some] <;> rfl), eH HB⟩
    ·
     replace c25 := Bool.eq_false_iff.mpr c25
     subst c25
     have H1 : (if 0 ≤ t399 then (if t399 < (l0_0.length : Int) then ((fanlightref10_Place.f kj7 l0_0 a0_1 a0_2 ((rd_T64 l0_0 t399).f1)).bind fun t403 => (if 0 ≤ t403 then (if t403 < (l0_0.length : Int) then (fanlightlaw10_DomBack.l0 kj7 a1 a2 a3 0 l0_0 a0_1 a0_2 ((rd_T64 l0_0 t403).f0) ((rd_T64 l0_0 t403).f1) ((rd_T64 l0_0 t403).f2) ((rd_T64 l0_0 t403).f3) ((rd_T64 l0_0 t403).f4) ((rd_T64 l0_0 t403).f5) ((rd_T64 l0_0 t403).f6)) else (none)) else (none))) else (none)) else (none)) = some r := by rw [if_neg (show ¬ (false = true) by decide)] at H; exact H
     clear H
     have H := H1
     clear H1
     by_cases c26 : 0 ≤ t399
     ·
      rw [if_pos c26] at H
      have c26b0 : decide (0 ≤ t399) = true := decide_eq_true c26
      clear c26
      by_cases c27 : t399 < (l0_0.length : Int)
      ·
       rw [if_pos c27] at H
       have c27b0 : decide (t399 < (l0_0.length : Int)) = true := decide_eq_true c27
       clear c27
       replace H := Option.bind_eq_some_iff.mp H
       obtain ⟨t403, A280, H⟩ := H
       (try dsimp only at H)
       have A28 := p' A280
       clear A280
       by_cases c29 : 0 ≤ t403
       ·
        rw [if_pos c29] at H
        have c29b0 : decide (0 ≤ t403) = true := decide_eq_true c29
        clear c29
        by_cases c30 : t403 < (l0_0.length : Int)
        ·
         rw [if_pos c30] at H
         have c30b0 : decide (t403 < (l0_0.length : Int)) = true := decide_eq_true c30
         clear c30
         have H' := p' H
         clear H
         try go_wp2
         have n0_ := p' (blk_drew BK397.out)
         have n1_ := p' (below_drew1 HB.out)
         clear BK397
         clear HB
         have BK397 := n0_
         have HB := n1_
         clear n0_ n1_
         have p402 : 0 ≤ (t399 : Int) := of_decide_eq_true (by first | (with_reducible assumption) | assumption)
         have q402 : t399 < (l0_0.length : Int) := of_decide_eq_true (by first | (with_reducible assumption) | assumption)
         obtain ⟨ad402, A402_5, c402_5, A402_6, c402_6, e402, hx402_0, hx402_1, hx402_2, hx402_3, hx402_4, hx402_5, hx402_6, hl402_5, hi402_5, hl402_6, hi402_6⟩ := at_T64 HR0_0.out t399 p402 q402
         have hw402_6 := hx402_6
         have hw402_5 := hx402_5
         have hw402_4 := hx402_4
         have hw402_3 := hx402_3
         have hw402_2 := hx402_2
         have hw402_1 := hx402_1
         have hw402_0 := hx402_0
         cases e402
         replace hx402_0 := (HB.out.cell (World.block_lt_of_cell? w _ hx402_0)).trans hx402_0
         replace hx402_1 := (HB.out.cell (World.block_lt_of_cell? w _ hx402_1)).trans hx402_1
         replace hx402_2 := (HB.out.cell (World.block_lt_of_cell? w _ hx402_2)).trans hx402_2
         replace hx402_3 := (HB.out.cell (World.block_lt_of_cell? w _ hx402_3)).trans hx402_3
         replace hx402_4 := (HB.out.cell (World.block_lt_of_cell? w _ hx402_4)).trans hx402_4
         replace hx402_5 := (HB.out.cell (World.block_lt_of_cell? w _ hx402_5)).trans hx402_5
         replace hx402_6 := (HB.out.cell (World.block_lt_of_cell? w _ hx402_6)).trans hx402_6
         have HR402_5 := p' hi402_5
         have HC402_5 := p' hl402_5
         clear hi402_5 hl402_5
         have HR402_6 := p' hi402_6
         have HC402_6 := p' hl402_6
         clear hi402_6 hl402_6
         replace p402 := eq_true p402
         replace q402 := eq_true q402
         have p404 : 0 ≤ (t403 : Int) := of_decide_eq_true (by first | (with_reducible assumption) | assumption)
         have q404 : t403 < (l0_0.length : Int) := of_decide_eq_true (by first | (with_reducible assumption) | assumption)
         obtain ⟨ad404, A404_5, c404_5, A404_6, c404_6, e404, hx404_0, hx404_1, hx404_2, hx404_3, hx404_4, hx404_5, hx404_6, hl404_5, hi404_5, hl404_6, hi404_6⟩ := at_T64 HR0_0.out t403 p404 q404
         have hw404_6 := hx404_6
         have hw404_5 := hx404_5
         have hw404_4 := hx404_4
         have hw404_3 := hx404_3
         have hw404_2 := hx404_2
         have hw404_1 := hx404_1
         have hw404_0 := hx404_0
         obtain rfl : ad402 = ad404 := (by injection e404)
         replace hx404_0 := (HB.out.cell (World.block_lt_of_cell? w _ hx404_0)).trans hx404_0
         replace hx404_1 := (HB.out.cell (World.block_lt_of_cell? w _ hx404_1)).trans hx404_1
         replace hx404_2 := (HB.out.cell (World.block_lt_of_cell? w _ hx404_2)).trans hx404_2
         replace hx404_3 := (HB.out.cell (World.block_lt_of_cell? w _ hx404_3)).trans hx404_3
         replace hx404_4 := (HB.out.cell (World.block_lt_of_cell? w _ hx404_4)).trans hx404_4
         replace hx404_5 := (HB.out.cell (World.block_lt_of_cell? w _ hx404_5)).trans hx404_5
         replace hx404_6 := (HB.out.cell (World.block_lt_of_cell? w _ hx404_6)).trans hx404_6
         have HR404_5 := p' hi404_5
         have HC404_5 := p' hl404_5
         clear hi404_5 hl404_5
         have HR404_6 := p' hi404_6
         have HC404_6 := p' hl404_6
         clear hi404_6 hl404_6
         replace p404 := eq_true p404
         replace q404 := eq_true q404
         refine start_ (n := 14) (S := fun w' => w'.cell? ⟨gb397, 0, none⟩ = some (.slice (some ad402) l0_0.length c0_0) ∧ w'.cell? ⟨gb397, 1, none⟩ = some (.int .i64 a0_1) ∧ w'.cell? ⟨gb397, 2, none⟩ = some (.int .i64 a0_2) ∧ w'.cell? (ad402.add ((t399).toNat * 7)) = some (.int .i64 ((rd_T64 l0_0 t399).f0)) ∧ w'.cell? ⟨(ad402.add ((t399).toNat * 7)).block, (ad402.add ((t399).toNat * 7)).off + 1, none⟩ = some (.int .i64 ((rd_T64 l0_0 t399).f1)) ∧ w'.cell? ⟨(ad402.add ((t399).toNat * 7)).block, (ad402.add ((t399).toNat * 7)).off + 2, none⟩ = some (.string ((rd_T64 l0_0 t399).f2)) ∧ w'.cell? ⟨(ad402.add ((t399).toNat * 7)).block, (ad402.add ((t399).toNat * 7)).off + 3, none⟩ = some (.string ((rd_T64 l0_0 t399).f3)) ∧ w'.cell? ⟨(ad402.add ((t399).toNat * 7)).block, (ad402.add ((t399).toNat * 7)).off + 4, none⟩ = some (.string ((rd_T64 l0_0 t399).f4)) ∧ w'.cell? ⟨(ad402.add ((t399).toNat * 7)).block, (ad402.add ((t399).toNat * 7)).off + 5, none⟩ = some (.slice A402_5 ((rd_T64 l0_0 t399).f5).length c402_5) ∧ w'.cell? ⟨(ad402.add ((t399).toNat * 7)).block, (ad402.add ((t399).toNat * 7)).off + 6, none⟩ = some (.slice A402_6 ((rd_T64 l0_0 t399).f6).length c402_6) ∧ w'.cell? (ad402.add ((t403).toNat * 7)) = some (.int .i64 ((rd_T64 l0_0 t403).f0)) ∧ w'.cell? ⟨(ad402.add ((t403).toNat * 7)).block, (ad402.add ((t403).toNat * 7)).off + 1, none⟩ = some (.int .i64 ((rd_T64 l0_0 t403).f1)) ∧ w'.cell? ⟨(ad402.add ((t403).toNat * 7)).block, (ad402.add ((t403).toNat * 7)).off + 2, none⟩ = some (.string ((rd_T64 l0_0 t403).f2)) ∧ w'.cell? ⟨(ad402.add ((t403).toNat * 7)).block, (ad402.add ((t403).toNat * 7)).off + 3, none⟩ = some (.string ((rd_T64 l0_0 t403).f3)) ∧ w'.cell? ⟨(ad402.add ((t403).toNat * 7)).block, (ad402.add ((t403).toNat * 7)).off + 4, none⟩ = some (.string ((rd_T64 l0_0 t403).f4)) ∧ w'.cell? ⟨(ad402.add ((t403).toNat * 7)).block, (ad402.add ((t403).toNat * 7)).off + 5, none⟩ = some (.slice A404_5 ((rd_T64 l0_0 t403).f5).length c404_5) ∧ w'.cell? ⟨(ad402.add ((t403).toNat * 7)).block, (ad402.add ((t403).toNat * 7)).off + 6, none⟩ = some (.slice A404_6 ((rd_T64 l0_0 t403).f6).length c404_6)) (ds := []) #[Z,Z,Z,Z,Z,Z,Z,Z,Z,Z,Z,Z,Z,Z] (by kernel_rfl) rfl rfl ⟨(c' BK397.out 0).trans rfl, (c' BK397.out 1).trans rfl, (c' BK397.out 2).trans rfl, ((HB.out.cell (World.block_lt_of_cell? w _ hw402_0)).trans hw402_0), ((HB.out.cell (World.block_lt_of_cell? w _ hw402_1)).trans hw402_1), ((HB.out.cell (World.block_lt_of_cell? w _ hw402_2)).trans hw402_2), ((HB.out.cell (World.block_lt_of_cell? w _ hw402_3)).trans hw402_3), ((HB.out.cell (World.block_lt_of_cell? w _ hw402_4)).trans hw402_4), ((HB.out.cell (World.block_lt_of_cell? w _ hw402_5)).trans hw402_5), ((HB.out.cell (World.block_lt_of_cell? w _ hw402_6)).trans hw402_6), ((HB.out.cell (World.block_lt_of_cell? w _ hw404_0)).trans hw404_0), ((HB.out.cell (World.block_lt_of_cell? w _ hw404_1)).trans hw404_1), ((HB.out.cell (World.block_lt_of_cell? w _ hw404_2)).trans hw404_2), ((HB.out.cell (World.block_lt_of_cell? w _ hw404_3)).trans hw404_3), ((HB.out.cell (World.block_lt_of_cell? w _ hw404_4)).trans hw404_4), ((HB.out.cell (World.block_lt_of_cell? w _ hw404_5)).trans hw404_5), ((HB.out.cell (World.block_lt_of_cell? w _ hw404_6)).trans hw404_6)⟩ (fun hHeld => ?_); refine with_tabW fanlightlaw10_DomBack.tab6 fanlightlaw10_DomBack.bits6 (fun HT_ HW_ => ?_)
         generalize wc.drew = w31 at BK397 HB HR402_5 HR402_6 HR404_5 HR404_6 hx402_0 hx402_1 hx402_2 hx402_3 hx402_4 hx402_5 hx402_6 hx404_0 hx404_1 hx404_2 hx404_3 hx404_4 hx404_5 hx404_6 hHeld ⊢
         refine pure_ (i := 0) (N := some 37) (v := ?_) (a' := ?_) #[Y,Z,Z,Z,Z,Z,Z,Z,Z,Z,Z,Z,Z,Z] rfl rfl (any_of HT_.out (by kernel_rfl)) (fun _ _ _ h => h) (Or.inl ⟨by rfl, ?_⟩) ?_ ?_
         rotate_left
         ·
          intro w'
          go_simp
          with_reducible rfl
         rotate_left
         ·
          simp only [Act.put, g', h', j', i64_w, i32_w]
          rfl
         refine pure_ (i := 3) (N := some 40) (v := ?_) (a' := ?_) #[Y,Z,Z,Y,Z,Z,Z,Z,Z,Z,Z,Z,Z,Z] rfl rfl (any_of HT_.out (by kernel_rfl)) (fun _ _ _ h => h) (Or.inl ⟨by rfl, ?_⟩) ?_ ?_
         rotate_left
         ·
          intro w'
          go_simp
          with_reducible rfl
         rotate_left
         ·
          simp only [Act.put, g', h', j', i64_w, i32_w]
          rfl
         refine pure_ (i := 5) (N := some 42) (v := ?_) (a' := ?_) #[Y,Z,Z,Y,Z,Y,Z,Z,Z,Z,Z,Z,Z,Z] rfl rfl (any_of HT_.out (by kernel_rfl)) (fun _ _ _ h => h) (Or.inl ⟨by rfl, ?_⟩) ?_ ?_
         rotate_left
         ·
          intro w'
          go_simp
          with_reducible rfl
         rotate_left
         ·
          simp only [Act.put, g', h', j', i64_w, i32_w]
          rfl
         refine take_ (i := 1) (N := some 38) (v := ?_) (a' := ?_) #[Y,Y,Z,Y,Z,Y,Z,Z,Z,Z,Z,Z,Z,Z] rfl rfl (take_ofW HT_.out HW_.out (by kernel_rfl)) (fun _ _ _ h => h) (Or.inl ⟨by rfl, ?_⟩) hHeld ?_ ?_
         rotate_left
         ·
          rintro w' ⟨s0, s1, s2, s3, s4, s5, s6, s7, s8, s9, s10, s11, s12, s13, s14, s15, s16⟩
          go_simp
          with_reducible rfl
         rotate_left
         ·
          simp only [Act.put, g', h', j', i64_w, i32_w]
          rfl
         refine take_ (i := 2) (N := some 39) (v := ?_) (a' := ?_) #[Y,Y,Y,Y,Z,Y,Z,Z,Z,Z,Z,Z,Z,Z] rfl rfl (take_ofW HT_.out HW_.out (by kernel_rfl)) (fun _ _ _ h => h) (Or.inl ⟨by rfl, ?_⟩) hHeld ?_ ?_
         rotate_left
         ·
          rintro w' ⟨s0, s1, s2, s3, s4, s5, s6, s7, s8, s9, s10, s11, s12, s13, s14, s15, s16⟩
          go_simp
          with_reducible rfl
         rotate_left
         ·
          simp only [Act.put, g', h', j', i64_w, i32_w]
          rfl
         refine take_ (i := 4) (N := some 41) (v := ?_) (a' := ?_) #[Y,Y,Y,Y,Y,Y,Z,Z,Z,Z,Z,Z,Z,Z] rfl rfl (take_ofW HT_.out HW_.out (by kernel_rfl)) (fun _ _ _ h => h) (Or.inl ⟨by rfl, ?_⟩) hHeld ?_ ?_
         rotate_left
         ·
          rintro w' ⟨s0, s1, s2, s3, s4, s5, s6, s7, s8, s9, s10, s11, s12, s13, s14, s15, s16⟩
          go_simp
          with_reducible rfl
         rotate_left
         ·
          simp only [Act.put, g', h', j', i64_w, i32_w]
          rfl
         refine pure_ (i := 6) (N := some 43) (v := ?_) (a' := ?_) #[Y,Y,Y,Y,Y,Y,Y,Z,Z,Z,Z,Z,Z,Z] rfl rfl (any_of HT_.out (by kernel_rfl)) (fun _ _ _ h => h) (Or.inl ⟨by rfl, ?_⟩) ?_ ?_
         rotate_left
         ·
          intro w'
          go_simp
          with_reducible rfl
         rotate_left
         ·
          simp only [Act.put, g', h', j', i64_w, i32_w]
          rfl
         refine pure_ (i := 7) (N := some 44) (v := ?_) (a' := ?_) #[Y,Y,Y,Y,Y,Y,Y,Y,Z,Z,Z,Z,Z,Z] rfl rfl (any_of HT_.out (by kernel_rfl)) (fun _ _ _ h => h) (Or.inl ⟨by rfl, ?_⟩) ?_ ?_
         rotate_left
         ·
          intro w'
          go_simp
          with_reducible rfl
         rotate_left
         ·
          simp only [Act.put, g', h', j', i64_w, i32_w]
          rfl
         refine take_ (i := 8) (N := some 45) (v := ?_) (a' := ?_) #[Y,Y,Y,Y,Y,Y,Y,Y,Y,Z,Z,Z,Z,Z] rfl rfl (take_ofW HT_.out HW_.out (by kernel_rfl)) (fun _ _ _ h => h) (Or.inl ⟨by rfl, ?_⟩) hHeld ?_ ?_
         rotate_left
         ·
          rintro w' ⟨s0, s1, s2, s3, s4, s5, s6, s7, s8, s9, s10, s11, s12, s13, s14, s15, s16⟩
          go_simp
          with_reducible rfl
         rotate_left
         ·
          simp only [Act.put, g', h', j', i64_w, i32_w]
          rfl
         refine join_ (σ := Nat) 1 #[Y,Y,Y,Y,Y,Y,Y,Y,Y,Y,Y,Y,Y,Z] (fun s_ => [(46, .int .i64 t403), (10, .pointer (some ⟨s_, 0, none⟩)), (47, .pointer (some (ad402.add ((t403).toNat * 7)))), (48, .agg #[.int .i64 ((rd_T64 l0_0 t403).f0), .int .i64 ((rd_T64 l0_0 t403).f1), .string ((rd_T64 l0_0 t403).f2), .string ((rd_T64 l0_0 t403).f3), .string ((rd_T64 l0_0 t403).f4), .slice A404_5 ((rd_T64 l0_0 t403).f5).length c404_5, .slice A404_6 ((rd_T64 l0_0 t403).f6).length c404_6])]) (fun s_ w' => (w'.cell? ⟨gb397, 0, none⟩ = some (.slice (some ad402) l0_0.length c0_0) ∧ w'.cell? ⟨gb397, 1, none⟩ = some (.int .i64 a0_1) ∧ w'.cell? ⟨gb397, 2, none⟩ = some (.int .i64 a0_2) ∧ w'.cell? (ad402.add ((t399).toNat * 7)) = some (.int .i64 ((rd_T64 l0_0 t399).f0)) ∧ w'.cell? ⟨(ad402.add ((t399).toNat * 7)).block, (ad402.add ((t399).toNat * 7)).off + 1, none⟩ = some (.int .i64 ((rd_T64 l0_0 t399).f1)) ∧ w'.cell? ⟨(ad402.add ((t399).toNat * 7)).block, (ad402.add ((t399).toNat * 7)).off + 2, none⟩ = some (.string ((rd_T64 l0_0 t399).f2)) ∧ w'.cell? ⟨(ad402.add ((t399).toNat * 7)).block, (ad402.add ((t399).toNat * 7)).off + 3, none⟩ = some (.string ((rd_T64 l0_0 t399).f3)) ∧ w'.cell? ⟨(ad402.add ((t399).toNat * 7)).block, (ad402.add ((t399).toNat * 7)).off + 4, none⟩ = some (.string ((rd_T64 l0_0 t399).f4)) ∧ w'.cell? ⟨(ad402.add ((t399).toNat * 7)).block, (ad402.add ((t399).toNat * 7)).off + 5, none⟩ = some (.slice A402_5 ((rd_T64 l0_0 t399).f5).length c402_5) ∧ w'.cell? ⟨(ad402.add ((t399).toNat * 7)).block, (ad402.add ((t399).toNat * 7)).off + 6, none⟩ = some (.slice A402_6 ((rd_T64 l0_0 t399).f6).length c402_6) ∧ w'.cell? (ad402.add ((t403).toNat * 7)) = some (.int .i64 ((rd_T64 l0_0 t403).f0)) ∧ w'.cell? ⟨(ad402.add ((t403).toNat * 7)).block, (ad402.add ((t403).toNat * 7)).off + 1, none⟩ = some (.int .i64 ((rd_T64 l0_0 t403).f1)) ∧ w'.cell? ⟨(ad402.add ((t403).toNat * 7)).block, (ad402.add ((t403).toNat * 7)).off + 2, none⟩ = some (.string ((rd_T64 l0_0 t403).f2)) ∧ w'.cell? ⟨(ad402.add ((t403).toNat * 7)).block, (ad402.add ((t403).toNat * 7)).off + 3, none⟩ = some (.string ((rd_T64 l0_0 t403).f3)) ∧ w'.cell? ⟨(ad402.add ((t403).toNat * 7)).block, (ad402.add ((t403).toNat * 7)).off + 4, none⟩ = some (.string ((rd_T64 l0_0 t403).f4)) ∧ w'.cell? ⟨(ad402.add ((t403).toNat * 7)).block, (ad402.add ((t403).toNat * 7)).off + 5, none⟩ = some (.slice A404_5 ((rd_T64 l0_0 t403).f5).length c404_5) ∧ w'.cell? ⟨(ad402.add ((t403).toNat * 7)).block, (ad402.add ((t403).toNat * 7)).off + 6, none⟩ = some (.slice A404_6 ((rd_T64 l0_0 t403).f6).length c404_6)) ∧ (w'.heap[gb397]? = some (.cells #[.slice (some ad402) l0_0.length c0_0, .int .i64 a0_1, .int .i64 a0_2] 24 (0, 0))) ∧ (w'.heap[s_]? = some (.cells #[.int .i64 0, .int .i64 0, .string (⟨#[]⟩ : ByteArray), .string (⟨#[]⟩ : ByteArray), .string (⟨#[]⟩ : ByteArray), .slice none 0 0, .slice none 0 0] 64 (0, 0))) ∧ (w.heap.size ≤ s_) ∧ (w.heap.size ≤ s_) ∧ (gb397 ≠ s_) ∧ (s_ ≠ gb397) ∧ (Below w.heap.size w w')) ?_ ?_
         rotate_left
         ·
          intro hCont
          refine two_ (i := 9) (j := 12) (Ni := some 46) (Nj := some 10) #[Y,Y,Y,Y,Y,Y,Y,Y,Y,Y,Z,Z,Z,Z] #[Y,Y,Y,Y,Y,Y,Y,Y,Y,Z,Z,Z,Y,Z] rfl rfl rfl rfl (two_of HT_.out (by kernel_rfl)) (by decide) (by decide) (fun K hK => ?_) (fun K hK => ?_)
          ·
           skip
           refine goes_ Try.func25 (by kernel_rfl) rfl #[.agg #[.slice (some ad402) l0_0.length c0_0, .int .i64 a0_1, .int .i64 a0_2], .int .i64 ((rd_T64 l0_0 t399).f1)] (by rfl) rfl rfl (by (try simp only [k', l', m']); first | done | rfl | (simp only [n', o']; rfl)) ?_
           with_reducible refine (fanlightref10_Place.calls kj7 _ _ l0_0 a0_1 a0_2 ((rd_T64 l0_0 t399).f1) t403 _ ?side1 ?side2 A28.out).mono ?_
           (case side1 => exact Kd.eC HR0_0 HB)
           (case side2 => exact HC0_0.out)
           rintro e w32 ⟨rfl, hb⟩
           refine ⟨_, rfl, ?_⟩
           have n0_ := p' (d' (g := gb397) (o := .cells #[.slice (some ad402) l0_0.length c0_0, .int .i64 a0_1, .int .i64 a0_2] 24 (0, 0)) (eB BK397) hb)
           have n1_ := p' (f' (eH HB) hb)
           clear BK397
           clear HB
           have BK397 := n0_
           have HB := n1_
           clear n0_ n1_
           (try clear hb)
           (try clear hb2)
           (try clear hk)
           (try clear hi)
           refine hK.out _ _ ⟨(c' BK397.out 0).trans rfl, (c' BK397.out 1).trans rfl, (c' BK397.out 2).trans rfl, ((HB.out.cell (World.block_lt_of_cell? w _ hw402_0)).trans hw402_0), ((HB.out.cell (World.block_lt_of_cell? w _ hw402_1)).trans hw402_1), ((HB.out.cell (World.block_lt_of_cell? w _ hw402_2)).trans hw402_2), ((HB.out.cell (World.block_lt_of_cell? w _ hw402_3)).trans hw402_3), ((HB.out.cell (World.block_lt_of_cell? w _ hw402_4)).trans hw402_4), ((HB.out.cell (World.block_lt_of_cell? w _ hw402_5)).trans hw402_5), ((HB.out.cell (World.block_lt_of_cell? w _ hw402_6)).trans hw402_6), ((HB.out.cell (World.block_lt_of_cell? w _ hw404_0)).trans hw404_0), ((HB.out.cell (World.block_lt_of_cell? w _ hw404_1)).trans hw404_1), ((HB.out.cell (World.block_lt_of_cell? w _ hw404_2)).trans hw404_2), ((HB.out.cell (World.block_lt_of_cell? w _ hw404_3)).trans hw404_3), ((HB.out.cell (World.block_lt_of_cell? w _ hw404_4)).trans hw404_4), ((HB.out.cell (World.block_lt_of_cell? w _ hw404_5)).trans hw404_5), ((HB.out.cell (World.block_lt_of_cell? w _ hw404_6)).trans hw404_6)⟩ (fun hHeld => ?_)
           clear hK K
           refine norm_ (a' := ?_) ?_ ?_
           rotate_left
           ·
            show Act.put _ (some 46) _ = _
            simp only [Act.put, g', h', j', i64_w, i32_w]
            rfl
           refine pure_ (i := 10) (N := some 47) (v := ?_) (a' := ?_) #[Y,Y,Y,Y,Y,Y,Y,Y,Y,Y,Y,Z,Z,Z] rfl rfl (any_of HT_.out (by kernel_rfl)) (fun _ _ _ h => h) (Or.inl ⟨by rfl, ?_⟩) ?_ ?_
           rotate_left
           ·
            intro w'
            go_simp
            with_reducible rfl
           rotate_left
           ·
            simp only [Act.put, g', h', j', i64_w, i32_w]
            rfl
           refine take_ (i := 11) (N := some 48) (v := ?_) (a' := ?_) #[Y,Y,Y,Y,Y,Y,Y,Y,Y,Y,Y,Y,Z,Z] rfl rfl (take_ofW HT_.out HW_.out (by kernel_rfl)) (fun _ _ _ h => h) (Or.inl ⟨by rfl, ?_⟩) hHeld ?_ ?_
           rotate_left
           ·
            rintro w' ⟨s0, s1, s2, s3, s4, s5, s6, s7, s8, s9, s10, s11, s12, s13, s14, s15, s16⟩
            go_simp
            with_reducible rfl
           rotate_left
           ·
            simp only [Act.put, g', h', j', i64_w, i32_w]
            rfl
           refine one_ (i := 12) (N := some 10) #[Y,Y,Y,Y,Y,Y,Y,Y,Y,Y,Y,Y,Y,Z] rfl rfl (one_of HT_.out (by kernel_rfl)) (by decide) (fun K hK => ?_)
           refine box_step ?hg (N := 10) ?hd (cs := #[.int .i64 0, .int .i64 0, .string (⟨#[]⟩ : ByteArray), .string (⟨#[]⟩ : ByteArray), .string (⟨#[]⟩ : ByteArray), .slice none 0 0, .slice none 0 0]) (t := 64) ?hr ?_; (case hd => rfl); (case hg => rfl); (case hr => first | (go_simp; done) | (go_simp; rfl))
           intro gb405 hg w33 hbox hb
           have n0_ := p' (d' (g := gb397) (o := .cells #[.slice (some ad402) l0_0.length c0_0, .int .i64 a0_1, .int .i64 a0_2] 24 (0, 0)) (eB BK397) hb)
           have n1_ := p' (f' (eH HB) hb)
           have n2_ := p' (hbox)
           have n3_ := p' ((by rw [hg]; exact (below_size (eH HB)) : w.heap.size ≤ gb405))
           have n4_ := p' ((by rw [hg]; exact (below_size (eH HB)) : w.heap.size ≤ gb405))
           have n5_ := p' ((by rw [hg]; exact Nat.ne_of_lt (blk_lt (g := gb397) (o := .cells #[.slice (some ad402) l0_0.length c0_0, .int .i64 a0_1, .int .i64 a0_2] 24 (0, 0)) (eB BK397)) : gb397 ≠ gb405))
           have n6_ := p' ((by rw [hg]; exact Nat.ne_of_gt (blk_lt (g := gb397) (o := .cells #[.slice (some ad402) l0_0.length c0_0, .int .i64 a0_1, .int .i64 a0_2] 24 (0, 0)) (eB BK397)) : gb405 ≠ gb397))
           clear BK397
           clear HB
           have BK397 := n0_
           have HB := n1_
           have BK405 := n2_
           have GW405 := n3_
           have GE405 := n4_
           have NB397_405 := n5_
           have NB405_397 := n6_
           clear n0_ n1_ n2_ n3_ n4_ n5_ n6_
           clear hb hbox hg
           refine hK.out _ _ ⟨(c' BK397.out 0).trans rfl, (c' BK397.out 1).trans rfl, (c' BK397.out 2).trans rfl, ((HB.out.cell (World.block_lt_of_cell? w _ hw402_0)).trans hw402_0), ((HB.out.cell (World.block_lt_of_cell? w _ hw402_1)).trans hw402_1), ((HB.out.cell (World.block_lt_of_cell? w _ hw402_2)).trans hw402_2), ((HB.out.cell (World.block_lt_of_cell? w _ hw402_3)).trans hw402_3), ((HB.out.cell (World.block_lt_of_cell? w _ hw402_4)).trans hw402_4), ((HB.out.cell (World.block_lt_of_cell? w _ hw402_5)).trans hw402_5), ((HB.out.cell (World.block_lt_of_cell? w _ hw402_6)).trans hw402_6), ((HB.out.cell (World.block_lt_of_cell? w _ hw404_0)).trans hw404_0), ((HB.out.cell (World.block_lt_of_cell? w _ hw404_1)).trans hw404_1), ((HB.out.cell (World.block_lt_of_cell? w _ hw404_2)).trans hw404_2), ((HB.out.cell (World.block_lt_of_cell? w _ hw404_3)).trans hw404_3), ((HB.out.cell (World.block_lt_of_cell? w _ hw404_4)).trans hw404_4), ((HB.out.cell (World.block_lt_of_cell? w _ hw404_5)).trans hw404_5), ((HB.out.cell (World.block_lt_of_cell? w _ hw404_6)).trans hw404_6)⟩ (fun hHeld => ?_)
           clear hK K
           refine norm_ (a' := ?_) ?_ ?_
           rotate_left
           ·
            show Act.put _ (some 10) _ = _
            simp only [Act.put, g', h', j', i64_w, i32_w]
            rfl
           exact norm_ (by simp only [putAll, Act.put, g', h', j']) (hCont (gb405) _ ⟨hHeld, (eB BK397), (eB BK405), GW405.out, GE405.out, NB397_405.out, NB405_397.out, (eH HB)⟩)
          ·
           skip
           refine box_step ?hg (N := 10) ?hd (cs := #[.int .i64 0, .int .i64 0, .string (⟨#[]⟩ : ByteArray), .string (⟨#[]⟩ : ByteArray), .string (⟨#[]⟩ : ByteArray), .slice none 0 0, .slice none 0 0]) (t := 64) ?hr ?_; (case hd => rfl); (case hg => rfl); (case hr => first | (go_simp; done) | (go_simp; rfl))
           intro gb405 hg w32 hbox hb
           have n0_ := p' (d' (g := gb397) (o := .cells #[.slice (some ad402) l0_0.length c0_0, .int .i64 a0_1, .int .i64 a0_2] 24 (0, 0)) (eB BK397) hb)
           have n1_ := p' (f' (eH HB) hb)
           have n2_ := p' (hbox)
           have n3_ := p' ((by rw [hg]; exact (below_size (eH HB)) : w.heap.size ≤ gb405))
           have n4_ := p' ((by rw [hg]; exact (below_size (eH HB)) : w.heap.size ≤ gb405))
           have n5_ := p' ((by rw [hg]; exact Nat.ne_of_lt (blk_lt (g := gb397) (o := .cells #[.slice (some ad402) l0_0.length c0_0, .int .i64 a0_1, .int .i64 a0_2] 24 (0, 0)) (eB BK397)) : gb397 ≠ gb405))
           have n6_ := p' ((by rw [hg]; exact Nat.ne_of_gt (blk_lt (g := gb397) (o := .cells #[.slice (some ad402) l0_0.length c0_0, .int .i64 a0_1, .int .i64 a0_2] 24 (0, 0)) (eB BK397)) : gb405 ≠ gb397))
           clear BK397
           clear HB
           have BK397 := n0_
           have HB := n1_
           have BK405 := n2_
           have GW405 := n3_
           have GE405 := n4_
           have NB397_405 := n5_
           have NB405_397 := n6_
           clear n0_ n1_ n2_ n3_ n4_ n5_ n6_
           clear hb hbox hg
           refine hK.out _ _ ⟨(c' BK397.out 0).trans rfl, (c' BK397.out 1).trans rfl, (c' BK397.out 2).trans rfl, ((HB.out.cell (World.block_lt_of_cell? w _ hw402_0)).trans hw402_0), ((HB.out.cell (World.block_lt_of_cell? w _ hw402_1)).trans hw402_1), ((HB.out.cell (World.block_lt_of_cell? w _ hw402_2)).trans hw402_2), ((HB.out.cell (World.block_lt_of_cell? w _ hw402_3)).trans hw402_3), ((HB.out.cell (World.block_lt_of_cell? w _ hw402_4)).trans hw402_4), ((HB.out.cell (World.block_lt_of_cell? w _ hw402_5)).trans hw402_5), ((HB.out.cell (World.block_lt_of_cell? w _ hw402_6)).trans hw402_6), ((HB.out.cell (World.block_lt_of_cell? w _ hw404_0)).trans hw404_0), ((HB.out.cell (World.block_lt_of_cell? w _ hw404_1)).trans hw404_1), ((HB.out.cell (World.block_lt_of_cell? w _ hw404_2)).trans hw404_2), ((HB.out.cell (World.block_lt_of_cell? w _ hw404_3)).trans hw404_3), ((HB.out.cell (World.block_lt_of_cell? w _ hw404_4)).trans hw404_4), ((HB.out.cell (World.block_lt_of_cell? w _ hw404_5)).trans hw404_5), ((HB.out.cell (World.block_lt_of_cell? w _ hw404_6)).trans hw404_6)⟩ (fun hHeld => ?_)
           clear hK K
           refine norm_ (a' := ?_) ?_ ?_
           rotate_left
           ·
            show Act.put _ (some 10) _ = _
            simp only [Act.put, g', h', j', i64_w, i32_w]
            rfl
           refine one_ (i := 9) (N := some 46) #[Y,Y,Y,Y,Y,Y,Y,Y,Y,Y,Z,Z,Y,Z] rfl rfl (one_of HT_.out (by kernel_rfl)) (by decide) (fun K hK => ?_)
           refine goes_ Try.func25 (by kernel_rfl) rfl #[.agg #[.slice (some ad402) l0_0.length c0_0, .int .i64 a0_1, .int .i64 a0_2], .int .i64 ((rd_T64 l0_0 t399).f1)] (by rfl) rfl rfl (by (try simp only [k', l', m']); first | done | rfl | (simp only [n', o']; rfl)) ?_
           with_reducible refine (fanlightref10_Place.calls kj7 _ _ l0_0 a0_1 a0_2 ((rd_T64 l0_0 t399).f1) t403 _ ?side1 ?side2 A28.out).mono ?_
           (case side1 => exact Kd.eC HR0_0 HB)
           (case side2 => exact HC0_0.out)
           rintro e w33 ⟨rfl, hb⟩
           refine ⟨_, rfl, ?_⟩
           have n0_ := p' (d' (g := gb397) (o := .cells #[.slice (some ad402) l0_0.length c0_0, .int .i64 a0_1, .int .i64 a0_2] 24 (0, 0)) (eB BK397) hb)
           have n1_ := p' (d' (g := gb405) (o := .cells #[.int .i64 0, .int .i64 0, .string (⟨#[]⟩ : ByteArray), .string (⟨#[]⟩ : ByteArray), .string (⟨#[]⟩ : ByteArray), .slice none 0 0, .slice none 0 0] 64 (0, 0)) (eB BK405) hb)
           have n2_ := p' (f' (eH HB) hb)
           clear BK397
           clear BK405
           clear HB
           have BK397 := n0_
           have BK405 := n1_
           have HB := n2_
           clear n0_ n1_ n2_
           (try clear hb)
           (try clear hb2)
           (try clear hk)
           (try clear hi)
           refine hK.out _ _ ⟨(c' BK397.out 0).trans rfl, (c' BK397.out 1).trans rfl, (c' BK397.out 2).trans rfl, ((HB.out.cell (World.block_lt_of_cell? w _ hw402_0)).trans hw402_0), ((HB.out.cell (World.block_lt_of_cell? w _ hw402_1)).trans hw402_1), ((HB.out.cell (World.block_lt_of_cell? w _ hw402_2)).trans hw402_2), ((HB.out.cell (World.block_lt_of_cell? w _ hw402_3)).trans hw402_3), ((HB.out.cell (World.block_lt_of_cell? w _ hw402_4)).trans hw402_4), ((HB.out.cell (World.block_lt_of_cell? w _ hw402_5)).trans hw402_5), ((HB.out.cell (World.block_lt_of_cell? w _ hw402_6)).trans hw402_6), ((HB.out.cell (World.block_lt_of_cell? w _ hw404_0)).trans hw404_0), ((HB.out.cell (World.block_lt_of_cell? w _ hw404_1)).trans hw404_1), ((HB.out.cell (World.block_lt_of_cell? w _ hw404_2)).trans hw404_2), ((HB.out.cell (World.block_lt_of_cell? w _ hw404_3)).trans hw404_3), ((HB.out.cell (World.block_lt_of_cell? w _ hw404_4)).trans hw404_4), ((HB.out.cell (World.block_lt_of_cell? w _ hw404_5)).trans hw404_5), ((HB.out.cell (World.block_lt_of_cell? w _ hw404_6)).trans hw404_6)⟩ (fun hHeld => ?_)
           clear hK K
           refine norm_ (a' := ?_) ?_ ?_
           rotate_left
           ·
            show Act.put _ (some 46) _ = _
            simp only [Act.put, g', h', j', i64_w, i32_w]
            rfl
           refine pure_ (i := 10) (N := some 47) (v := ?_) (a' := ?_) #[Y,Y,Y,Y,Y,Y,Y,Y,Y,Y,Y,Z,Y,Z] rfl rfl (any_of HT_.out (by kernel_rfl)) (fun _ _ _ h => h) (Or.inl ⟨by rfl, ?_⟩) ?_ ?_
           rotate_left
           ·
            intro w'
            go_simp
            with_reducible rfl
           rotate_left
           ·
            simp only [Act.put, g', h', j', i64_w, i32_w]
            rfl
           refine take_ (i := 11) (N := some 48) (v := ?_) (a' := ?_) #[Y,Y,Y,Y,Y,Y,Y,Y,Y,Y,Y,Y,Y,Z] rfl rfl (take_ofW HT_.out HW_.out (by kernel_rfl)) (fun _ _ _ h => h) (Or.inl ⟨by rfl, ?_⟩) hHeld ?_ ?_
           rotate_left
           ·
            rintro w' ⟨s0, s1, s2, s3, s4, s5, s6, s7, s8, s9, s10, s11, s12, s13, s14, s15, s16⟩
            go_simp
            with_reducible rfl
           rotate_left
           ·
            simp only [Act.put, g', h', j', i64_w, i32_w]
            rfl
           exact norm_ (by simp only [putAll, Act.put, g', h', j']) (hCont (gb405) _ ⟨hHeld, (eB BK397), (eB BK405), GW405.out, GE405.out, NB397_405.out, NB405_397.out, (eH HB)⟩)
         rintro gb405 w34 ⟨hS_, h0_, h1_, h2_, h3_, h4_, h5_, h6_⟩
         have n0_ : Aside0 (w34.heap[gb397]? = some (.cells #[.slice (some ad402) l0_0.length c0_0, .int .i64 a0_1, .int .i64 a0_2] 24 (0, 0))) := ⟨h0_⟩
         have n1_ : Aside0 (w34.heap[gb405]? = some (.cells #[.int .i64 0, .int .i64 0, .string (⟨#[]⟩ : ByteArray), .string (⟨#[]⟩ : ByteArray), .string (⟨#[]⟩ : ByteArray), .slice none 0 0, .slice none 0 0] 64 (0, 0))) := ⟨h1_⟩
         have n2_ : Aside0 (w.heap.size ≤ gb405) := ⟨h2_⟩
         have n3_ : Aside0 (w.heap.size ≤ gb405) := ⟨h3_⟩
         have n4_ : Aside0 (gb397 ≠ gb405) := ⟨h4_⟩
         have n5_ : Aside0 (gb405 ≠ gb397) := ⟨h5_⟩
         have n6_ : Aside0 (Below w.heap.size w w34) := ⟨h6_⟩
         clear BK397
         clear HB
         clear h0_ h1_ h2_ h3_ h4_ h5_ h6_
         have BK397 := n0_
         have BK405 := n1_
         have GW405 := n2_
         have GE405 := n3_
         have NB397_405 := n4_
         have NB405_397 := n5_
         have HB := n6_
         clear n0_ n1_ n2_ n3_ n4_ n5_ n6_
         have hHeld : w34.cell? ⟨gb397, 0, none⟩ = some (.slice (some ad402) l0_0.length c0_0) ∧ w34.cell? ⟨gb397, 1, none⟩ = some (.int .i64 a0_1) ∧ w34.cell? ⟨gb397, 2, none⟩ = some (.int .i64 a0_2) ∧ w34.cell? (ad402.add ((t399).toNat * 7)) = some (.int .i64 ((rd_T64 l0_0 t399).f0)) ∧ w34.cell? ⟨(ad402.add ((t399).toNat * 7)).block, (ad402.add ((t399).toNat * 7)).off + 1, none⟩ = some (.int .i64 ((rd_T64 l0_0 t399).f1)) ∧ w34.cell? ⟨(ad402.add ((t399).toNat * 7)).block, (ad402.add ((t399).toNat * 7)).off + 2, none⟩ = some (.string ((rd_T64 l0_0 t399).f2)) ∧ w34.cell? ⟨(ad402.add ((t399).toNat * 7)).block, (ad402.add ((t399).toNat * 7)).off + 3, none⟩ = some (.string ((rd_T64 l0_0 t399).f3)) ∧ w34.cell? ⟨(ad402.add ((t399).toNat * 7)).block, (ad402.add ((t399).toNat * 7)).off + 4, none⟩ = some (.string ((rd_T64 l0_0 t399).f4)) ∧ w34.cell? ⟨(ad402.add ((t399).toNat * 7)).block, (ad402.add ((t399).toNat * 7)).off + 5, none⟩ = some (.slice A402_5 ((rd_T64 l0_0 t399).f5).length c402_5) ∧ w34.cell? ⟨(ad402.add ((t399).toNat * 7)).block, (ad402.add ((t399).toNat * 7)).off + 6, none⟩ = some (.slice A402_6 ((rd_T64 l0_0 t399).f6).length c402_6) ∧ w34.cell? (ad402.add ((t403).toNat * 7)) = some (.int .i64 ((rd_T64 l0_0 t403).f0)) ∧ w34.cell? ⟨(ad402.add ((t403).toNat * 7)).block, (ad402.add ((t403).toNat * 7)).off + 1, none⟩ = some (.int .i64 ((rd_T64 l0_0 t403).f1)) ∧ w34.cell? ⟨(ad402.add ((t403).toNat * 7)).block, (ad402.add ((t403).toNat * 7)).off + 2, none⟩ = some (.string ((rd_T64 l0_0 t403).f2)) ∧ w34.cell? ⟨(ad402.add ((t403).toNat * 7)).block, (ad402.add ((t403).toNat * 7)).off + 3, none⟩ = some (.string ((rd_T64 l0_0 t403).f3)) ∧ w34.cell? ⟨(ad402.add ((t403).toNat * 7)).block, (ad402.add ((t403).toNat * 7)).off + 4, none⟩ = some (.string ((rd_T64 l0_0 t403).f4)) ∧ w34.cell? ⟨(ad402.add ((t403).toNat * 7)).block, (ad402.add ((t403).toNat * 7)).off + 5, none⟩ = some (.slice A404_5 ((rd_T64 l0_0 t403).f5).length c404_5) ∧ w34.cell? ⟨(ad402.add ((t403).toNat * 7)).block, (ad402.add ((t403).toNat * 7)).off + 6, none⟩ = some (.slice A404_6 ((rd_T64 l0_0 t403).f6).length c404_6) := hS_
         refine norm_ (a' := ?_) ?_ ?_
         rotate_left
         ·
          simp only [putAll, Act.put, g', h', j']
          rfl
         refine one_ (i := 13) (N := none) #[Y,Y,Y,Y,Y,Y,Y,Y,Y,Y,Y,Y,Y,Y] rfl rfl (one_of HT_.out (by kernel_rfl)) (by decide) (fun K hK => ?_)
         have hs35 : w34.cell? ⟨gb405, 0, none⟩ = some (.int .i64 0) := (c' BK405.out 0).trans rfl
         have hfs35 := b' BK405.out 0
         have hns35_0 := NB397_405.out
         have hms35_0 := NB405_397.out
         have hs36 : w34.cell? ⟨gb405, 1, none⟩ = some (.int .i64 0) := (c' BK405.out 1).trans rfl
         have hfs36 := b' BK405.out 1
         have hns36_0 := NB397_405.out
         have hms36_0 := NB405_397.out
         have hs37 : w34.cell? ⟨gb405, 2, none⟩ = some (.string (⟨#[]⟩ : ByteArray)) := (c' BK405.out 2).trans rfl
         have hfs37 := b' BK405.out 2
         have hns37_0 := NB397_405.out
         have hms37_0 := NB405_397.out
         have hs38 : w34.cell? ⟨gb405, 3, none⟩ = some (.string (⟨#[]⟩ : ByteArray)) := (c' BK405.out 3).trans rfl
         have hfs38 := b' BK405.out 3
         have hns38_0 := NB397_405.out
         have hms38_0 := NB405_397.out
         have hs39 : w34.cell? ⟨gb405, 4, none⟩ = some (.string (⟨#[]⟩ : ByteArray)) := (c' BK405.out 4).trans rfl
         have hfs39 := b' BK405.out 4
         have hns39_0 := NB397_405.out
         have hms39_0 := NB405_397.out
         have hs40 : w34.cell? ⟨gb405, 5, none⟩ = some (.slice none 0 0) := (c' BK405.out 5).trans rfl
         have hfs40 := b' BK405.out 5
         have hns40_0 := NB397_405.out
         have hms40_0 := NB405_397.out
         have hs41 : w34.cell? ⟨gb405, 6, none⟩ = some (.slice none 0 0) := (c' BK405.out 6).trans rfl
         have hfs41 := b' BK405.out 6
         have hns41_0 := NB397_405.out
         have hms41_0 := NB405_397.out
         refine skip_ (w1 := ?_) (by rfl) rfl ?_ ?_
         rotate_left
         ·
          go_simp
          rfl
         refine hK.out _ _ ⟨((cell_far (p := ⟨gb405, _, none⟩) NB397_405.out _).trans (((cell_far (p := ⟨gb405, _, none⟩) NB397_405.out _).trans (((cell_far (p := ⟨gb405, _, none⟩) NB397_405.out _).trans (((cell_far (p := ⟨gb405, _, none⟩) NB397_405.out _).trans (((cell_far (p := ⟨gb405, _, none⟩) NB397_405.out _).trans (((cell_far (p := ⟨gb405, _, none⟩) NB397_405.out _).trans (((cell_far (p := ⟨gb405, _, none⟩) NB397_405.out _).trans (hHeld.1)))))))))))))), ((cell_far (p := ⟨gb405, _, none⟩) NB397_405.out _).trans (((cell_far (p := ⟨gb405, _, none⟩) NB397_405.out _).trans (((cell_far (p := ⟨gb405, _, none⟩) NB397_405.out _).trans (((cell_far (p := ⟨gb405, _, none⟩) NB397_405.out _).trans (((cell_far (p := ⟨gb405, _, none⟩) NB397_405.out _).trans (((cell_far (p := ⟨gb405, _, none⟩) NB397_405.out _).trans (((cell_far (p := ⟨gb405, _, none⟩) NB397_405.out _).trans (hHeld.2.1)))))))))))))), ((cell_far (p := ⟨gb405, _, none⟩) NB397_405.out _).trans (((cell_far (p := ⟨gb405, _, none⟩) NB397_405.out _).trans (((cell_far (p := ⟨gb405, _, none⟩) NB397_405.out _).trans (((cell_far (p := ⟨gb405, _, none⟩) NB397_405.out _).trans (((cell_far (p := ⟨gb405, _, none⟩) NB397_405.out _).trans (((cell_far (p := ⟨gb405, _, none⟩) NB397_405.out _).trans (((cell_far (p := ⟨gb405, _, none⟩) NB397_405.out _).trans (hHeld.2.2.1)))))))))))))), ((cell_far (p := ⟨gb405, _, none⟩) (by first | exact Nat.ne_of_lt (Nat.lt_of_lt_of_le (by have := World.block_lt_of_cell? _ _ hw402_0; first | rwa [add_block] at this | exact this) GW405.out) | (rw [add_block]; exact Nat.ne_of_lt (Nat.lt_of_lt_of_le (by have := World.block_lt_of_cell? _ _ hw402_0; first | rwa [add_block] at this | exact this) GW405.out)) | (show (Addr.add _ _).block ≠ _; rw [add_block]; exact Nat.ne_of_lt (Nat.lt_of_lt_of_le (by have := World.block_lt_of_cell? _ _ hw402_0; first | rwa [add_block] at this | exact this) GW405.out)) | (dsimp only; exact Nat.ne_of_lt (Nat.lt_of_lt_of_le (by have := World.block_lt_of_cell? _ _ hw402_0; first | rwa [add_block] at this | exact this) GW405.out))) _).trans (((cell_far (p := ⟨gb405, _, none⟩) (by first | exact Nat.ne_of_lt (Nat.lt_of_lt_of_le (by have := World.block_lt_of_cell? _ _ hw402_0; first | rwa [add_block] at this | exact this) GW405.out) | (rw [add_block]; exact Nat.ne_of_lt (Nat.lt_of_lt_of_le (by have := World.block_lt_of_cell? _ _ hw402_0; first | rwa [add_block] at this | exact this) GW405.out)) | (show (Addr.add _ _).block ≠ _; rw [add_block]; exact Nat.ne_of_lt (Nat.lt_of_lt_of_le (by have := World.block_lt_of_cell? _ _ hw402_0; first | rwa [add_block] at this | exact this) GW405.out)) | (dsimp only; exact Nat.ne_of_lt (Nat.lt_of_lt_of_le (by have := World.block_lt_of_cell? _ _ hw402_0; first | rwa [add_block] at this | exact this) GW405.out))) _).trans (((cell_far (p := ⟨gb405, _, none⟩) (by first | exact Nat.ne_of_lt (Nat.lt_of_lt_of_le (by have := World.block_lt_of_cell? _ _ hw402_0; first | rwa [add_block] at this | exact this) GW405.out) | (rw [add_block]; exact Nat.ne_of_lt (Nat.lt_of_lt_of_le (by have := World.block_lt_of_cell? _ _ hw402_0; first | rwa [add_block] at this | exact this) GW405.out)) | (show (Addr.add _ _).block ≠ _; rw [add_block]; exact Nat.ne_of_lt (Nat.lt_of_lt_of_le (by have := World.block_lt_of_cell? _ _ hw402_0; first | rwa [add_block] at this | exact this) GW405.out)) | (dsimp only; exact Nat.ne_of_lt (Nat.lt_of_lt_of_le (by have := World.block_lt_of_cell? _ _ hw402_0; first | rwa [add_block] at this | exact this) GW405.out))) _).trans (((cell_far (p := ⟨gb405, _, none⟩) (by first | exact Nat.ne_of_lt (Nat.lt_of_lt_of_le (by have := World.block_lt_of_cell? _ _ hw402_0; first | rwa [add_block] at this | exact this) GW405.out) | (rw [add_block]; exact Nat.ne_of_lt (Nat.lt_of_lt_of_le (by have := World.block_lt_of_cell? _ _ hw402_0; first | rwa [add_block] at this | exact this) GW405.out)) | (show (Addr.add _ _).block ≠ _; rw [add_block]; exact Nat.ne_of_lt (Nat.lt_of_lt_of_le (by have := World.block_lt_of_cell? _ _ hw402_0; first | rwa [add_block] at this | exact this) GW405.out)) | (dsimp only; exact Nat.ne_of_lt (Nat.lt_of_lt_of_le (by have := World.block_lt_of_cell? _ _ hw402_0; first | rwa [add_block] at this | exact this) GW405.out))) _).trans (((cell_far (p := ⟨gb405, _, none⟩) (by first | exact Nat.ne_of_lt (Nat.lt_of_lt_of_le (by have := World.block_lt_of_cell? _ _ hw402_0; first | rwa [add_block] at this | exact this) GW405.out) | (rw [add_block]; exact Nat.ne_of_lt (Nat.lt_of_lt_of_le (by have := World.block_lt_of_cell? _ _ hw402_0; first | rwa [add_block] at this | exact this) GW405.out)) | (show (Addr.add _ _).block ≠ _; rw [add_block]; exact Nat.ne_of_lt (Nat.lt_of_lt_of_le (by have := World.block_lt_of_cell? _ _ hw402_0; first | rwa [add_block] at this | exact this) GW405.out)) | (dsimp only; exact Nat.ne_of_lt (Nat.lt_of_lt_of_le (by have := World.block_lt_of_cell? _ _ hw402_0; first | rwa [add_block] at this | exact this) GW405.out))) _).trans (((cell_far (p := ⟨gb405, _, none⟩) (by first | exact Nat.ne_of_lt (Nat.lt_of_lt_of_le (by have := World.block_lt_of_cell? _ _ hw402_0; first | rwa [add_block] at this | exact this) GW405.out) | (rw [add_block]; exact Nat.ne_of_lt (Nat.lt_of_lt_of_le (by have := World.block_lt_of_cell? _ _ hw402_0; first | rwa [add_block] at this | exact this) GW405.out)) | (show (Addr.add _ _).block ≠ _; rw [add_block]; exact Nat.ne_of_lt (Nat.lt_of_lt_of_le (by have := World.block_lt_of_cell? _ _ hw402_0; first | rwa [add_block] at this | exact this) GW405.out)) | (dsimp only; exact Nat.ne_of_lt (Nat.lt_of_lt_of_le (by have := World.block_lt_of_cell? _ _ hw402_0; first | rwa [add_block] at this | exact this) GW405.out))) _).trans (((cell_far (p := ⟨gb405, _, none⟩) (by first | exact Nat.ne_of_lt (Nat.lt_of_lt_of_le (by have := World.block_lt_of_cell? _ _ hw402_0; first | rwa [add_block] at this | exact this) GW405.out) | (rw [add_block]; exact Nat.ne_of_lt (Nat.lt_of_lt_of_le (by have := World.block_lt_of_cell? _ _ hw402_0; first | rwa [add_block] at this | exact this) GW405.out)) | (show (Addr.add _ _).block ≠ _; rw [add_block]; exact Nat.ne_of_lt (Nat.lt_of_lt_of_le (by have := World.block_lt_of_cell? _ _ hw402_0; first | rwa [add_block] at this | exact this) GW405.out)) | (dsimp only; exact Nat.ne_of_lt (Nat.lt_of_lt_of_le (by have := World.block_lt_of_cell? _ _ hw402_0; first | rwa [add_block] at this | exact this) GW405.out))) _).trans (hHeld.2.2.2.1)))))))))))))), ((cell_far (p := ⟨gb405, _, none⟩) (by first | exact Nat.ne_of_lt (Nat.lt_of_lt_of_le (by have := World.block_lt_of_cell? _ _ hw402_1; first | rwa [add_block] at this | exact this) GW405.out) | (rw [add_block]; exact Nat.ne_of_lt (Nat.lt_of_lt_of_le (by have := World.block_lt_of_cell? _ _ hw402_1; first | rwa [add_block] at this | exact this) GW405.out)) | (show (Addr.add _ _).block ≠ _; rw [add_block]; exact Nat.ne_of_lt (Nat.lt_of_lt_of_le (by have := World.block_lt_of_cell? _ _ hw402_1; first | rwa [add_block] at this | exact this) GW405.out)) | (dsimp only; exact Nat.ne_of_lt (Nat.lt_of_lt_of_le (by have := World.block_lt_of_cell? _ _ hw402_1; first | rwa [add_block] at this | exact this) GW405.out))) _).trans (((cell_far (p := ⟨gb405, _, none⟩) (by first | exact Nat.ne_of_lt (Nat.lt_of_lt_of_le (by have := World.block_lt_of_cell? _ _ hw402_1; first | rwa [add_block] at this | exact this) GW405.out) | (rw [add_block]; exact Nat.ne_of_lt (Nat.lt_of_lt_of_le (by have := World.block_lt_of_cell? _ _ hw402_1; first | rwa [add_block] at this | exact this) GW405.out)) | (show (Addr.add _ _).block ≠ _; rw [add_block]; exact Nat.ne_of_lt (Nat.lt_of_lt_of_le (by have := World.block_lt_of_cell? _ _ hw402_1; first | rwa [add_block] at this | exact this) GW405.out)) | (dsimp only; exact Nat.ne_of_lt (Nat.lt_of_lt_of_le (by have := World.block_lt_of_cell? _ _ hw402_1; first | rwa [add_block] at this | exact this) GW405.out))) _).trans (((cell_far (p := ⟨gb405, _, none⟩) (by first | exact Nat.ne_of_lt (Nat.lt_of_lt_of_le (by have := World.block_lt_of_cell? _ _ hw402_1; first | rwa [add_block] at this | exact this) GW405.out) | (rw [add_block]; exact Nat.ne_of_lt (Nat.lt_of_lt_of_le (by have := World.block_lt_of_cell? _ _ hw402_1; first | rwa [add_block] at this | exact this) GW405.out)) | (show (Addr.add _ _).block ≠ _; rw [add_block]; exact Nat.ne_of_lt (Nat.lt_of_lt_of_le (by have := World.block_lt_of_cell? _ _ hw402_1; first | rwa [add_block] at this | exact this) GW405.out)) | (dsimp only; exact Nat.ne_of_lt (Nat.lt_of_lt_of_le (by have := World.block_lt_of_cell? _ _ hw402_1; first | rwa [add_block] at this | exact this) GW405.out))) _).trans (((cell_far (p := ⟨gb405, _, none⟩) (by first | exact Nat.ne_of_lt (Nat.lt_of_lt_of_le (by have := World.block_lt_of_cell? _ _ hw402_1; first | rwa [add_block] at this | exact this) GW405.out) | (rw [add_block]; exact Nat.ne_of_lt (Nat.lt_of_lt_of_le (by have := World.block_lt_of_cell? _ _ hw402_1; first | rwa [add_block] at this | exact this) GW405.out)) | (show (Addr.add _ _).block ≠ _; rw [add_block]; exact Nat.ne_of_lt (Nat.lt_of_lt_of_le (by have := World.block_lt_of_cell? _ _ hw402_1; first | rwa [add_block] at this | exact this) GW405.out)) | (dsimp only; exact Nat.ne_of_lt (Nat.lt_of_lt_of_le (by have := World.block_lt_of_cell? _ _ hw402_1; first | rwa [add_block] at this | exact this) GW405.out))) _).trans (((cell_far (p := ⟨gb405, _, none⟩) (by first | exact Nat.ne_of_lt (Nat.lt_of_lt_of_le (by have := World.block_lt_of_cell? _ _ hw402_1; first | rwa [add_block] at this | exact this) GW405.out) | (rw [add_block]; exact Nat.ne_of_lt (Nat.lt_of_lt_of_le (by have := World.block_lt_of_cell? _ _ hw402_1; first | rwa [add_block] at this | exact this) GW405.out)) | (show (Addr.add _ _).block ≠ _; rw [add_block]; exact Nat.ne_of_lt (Nat.lt_of_lt_of_le (by have := World.block_lt_of_cell? _ _ hw402_1; first | rwa [add_block] at this | exact this) GW405.out)) | (dsimp only; exact Nat.ne_of_lt (Nat.lt_of_lt_of_le (by have := World.block_lt_of_cell? _ _ hw402_1; first | rwa [add_block] at this | exact this) GW405.out))) _).trans (((cell_far (p := ⟨gb405, _, none⟩) (by first | exact Nat.ne_of_lt (Nat.lt_of_lt_of_le (by have := World.block_lt_of_cell? _ _ hw402_1; first | rwa [add_block] at this | exact this) GW405.out) | (rw [add_block]; exact Nat.ne_of_lt (Nat.lt_of_lt_of_le (by have := World.block_lt_of_cell? _ _ hw402_1; first | rwa [add_block] at this | exact this) GW405.out)) | (show (Addr.add _ _).block ≠ _; rw [add_block]; exact Nat.ne_of_lt (Nat.lt_of_lt_of_le (by have := World.block_lt_of_cell? _ _ hw402_1; first | rwa [add_block] at this | exact this) GW405.out)) | (dsimp only; exact Nat.ne_of_lt (Nat.lt_of_lt_of_le (by have := World.block_lt_of_cell? _ _ hw402_1; first | rwa [add_block] at this | exact this) GW405.out))) _).trans (((cell_far (p := ⟨gb405, _, none⟩) (by first | exact Nat.ne_of_lt (Nat.lt_of_lt_of_le (by have := World.block_lt_of_cell? _ _ hw402_1; first | rwa [add_block] at this | exact this) GW405.out) | (rw [add_block]; exact Nat.ne_of_lt (Nat.lt_of_lt_of_le (by have := World.block_lt_of_cell? _ _ hw402_1; first | rwa [add_block] at this | exact this) GW405.out)) | (show (Addr.add _ _).block ≠ _; rw [add_block]; exact Nat.ne_of_lt (Nat.lt_of_lt_of_le (by have := World.block_lt_of_cell? _ _ hw402_1; first | rwa [add_block] at this | exact this) GW405.out)) | (dsimp only; exact Nat.ne_of_lt (Nat.lt_of_lt_of_le (by have := World.block_lt_of_cell? _ _ hw402_1; first | rwa [add_block] at this | exact this) GW405.out))) _).trans (hHeld.2.2.2.2.1)))))))))))))), ((cell_far (p := ⟨gb405, _, none⟩) (by first | exact Nat.ne_of_lt (Nat.lt_of_lt_of_le (by have := World.block_lt_of_cell? _ _ hw402_2; first | rwa [add_block] at this | exact this) GW405.out) | (rw [add_block]; exact Nat.ne_of_lt (Nat.lt_of_lt_of_le (by have := World.block_lt_of_cell? _ _ hw402_2; first | rwa [add_block] at this | exact this) GW405.out)) | (show (Addr.add _ _).block ≠ _; rw [add_block]; exact Nat.ne_of_lt (Nat.lt_of_lt_of_le (by have := World.block_lt_of_cell? _ _ hw402_2; first | rwa [add_block] at this | exact this) GW405.out)) | (dsimp only; exact Nat.ne_of_lt (Nat.lt_of_lt_of_le (by have := World.block_lt_of_cell? _ _ hw402_2; first | rwa [add_block] at this | exact this) GW405.out))) _).trans (((cell_far (p := ⟨gb405, _, none⟩) (by first | exact Nat.ne_of_lt (Nat.lt_of_lt_of_le (by have := World.block_lt_of_cell? _ _ hw402_2; first | rwa [add_block] at this | exact this) GW405.out) | (rw [add_block]; exact Nat.ne_of_lt (Nat.lt_of_lt_of_le (by have := World.block_lt_of_cell? _ _ hw402_2; first | rwa [add_block] at this | exact this) GW405.out)) | (show (Addr.add _ _).block ≠ _; rw [add_block]; exact Nat.ne_of_lt (Nat.lt_of_lt_of_le (by have := World.block_lt_of_cell? _ _ hw402_2; first | rwa [add_block] at this | exact this) GW405.out)) | (dsimp only; exact Nat.ne_of_lt (Nat.lt_of_lt_of_le (by have := World.block_lt_of_cell? _ _ hw402_2; first | rwa [add_block] at this | exact this) GW405.out))) _).trans (((cell_far (p := ⟨gb405, _, none⟩) (by first | exact Nat.ne_of_lt (Nat.lt_of_lt_of_le (by have := World.block_lt_of_cell? _ _ hw402_2; first | rwa [add_block] at this | exact this) GW405.out) | (rw [add_block]; exact Nat.ne_of_lt (Nat.lt_of_lt_of_le (by have := World.block_lt_of_cell? _ _ hw402_2; first | rwa [add_block] at this | exact this) GW405.out)) | (show (Addr.add _ _).block ≠ _; rw [add_block]; exact Nat.ne_of_lt (Nat.lt_of_lt_of_le (by have := World.block_lt_of_cell? _ _ hw402_2; first | rwa [add_block] at this | exact this) GW405.out)) | (dsimp only; exact Nat.ne_of_lt (Nat.lt_of_lt_of_le (by have := World.block_lt_of_cell? _ _ hw402_2; first | rwa [add_block] at this | exact this) GW405.out))) _).trans (((cell_far (p := ⟨gb405, _, none⟩) (by first | exact Nat.ne_of_lt (Nat.lt_of_lt_of_le (by have := World.block_lt_of_cell? _ _ hw402_2; first | rwa [add_block] at this | exact this) GW405.out) | (rw [add_block]; exact Nat.ne_of_lt (Nat.lt_of_lt_of_le (by have := World.block_lt_of_cell? _ _ hw402_2; first | rwa [add_block] at this | exact this) GW405.out)) | (show (Addr.add _ _).block ≠ _; rw [add_block]; exact Nat.ne_of_lt (Nat.lt_of_lt_of_le (by have := World.block_lt_of_cell? _ _ hw402_2; first | rwa [add_block] at this | exact this) GW405.out)) | (dsimp only; exact Nat.ne_of_lt (Nat.lt_of_lt_of_le (by have := World.block_lt_of_cell? _ _ hw402_2; first | rwa [add_block] at this | exact this) GW405.out))) _).trans (((cell_far (p := ⟨gb405, _, none⟩) (by first | exact Nat.ne_of_lt (Nat.lt_of_lt_of_le (by have := World.block_lt_of_cell? _ _ hw402_2; first | rwa [add_block] at this | exact this) GW405.out) | (rw [add_block]; exact Nat.ne_of_lt (Nat.lt_of_lt_of_le (by have := World.block_lt_of_cell? _ _ hw402_2; first | rwa [add_block] at this | exact this) GW405.out)) | (show (Addr.add _ _).block ≠ _; rw [add_block]; exact Nat.ne_of_lt (Nat.lt_of_lt_of_le (by have := World.block_lt_of_cell? _ _ hw402_2; first | rwa [add_block] at this | exact this) GW405.out)) | (dsimp only; exact Nat.ne_of_lt (Nat.lt_of_lt_of_le (by have := World.block_lt_of_cell? _ _ hw402_2; first | rwa [add_block] at this | exact this) GW405.out))) _).trans (((cell_far (p := ⟨gb405, _, none⟩) (by first | exact Nat.ne_of_lt (Nat.lt_of_lt_of_le (by have := World.block_lt_of_cell? _ _ hw402_2; first | rwa [add_block] at this | exact this) GW405.out) | (rw [add_block]; exact Nat.ne_of_lt (Nat.lt_of_lt_of_le (by have := World.block_lt_of_cell? _ _ hw402_2; first | rwa [add_block] at this | exact this) GW405.out)) | (show (Addr.add _ _).block ≠ _; rw [add_block]; exact Nat.ne_of_lt (Nat.lt_of_lt_of_le (by have := World.block_lt_of_cell? _ _ hw402_2; first | rwa [add_block] at this | exact this) GW405.out)) | (dsimp only; exact Nat.ne_of_lt (Nat.lt_of_lt_of_le (by have := World.block_lt_of_cell? _ _ hw402_2; first | rwa [add_block] at this | exact this) GW405.out))) _).trans (((cell_far (p := ⟨gb405, _, none⟩) (by first | exact Nat.ne_of_lt (Nat.lt_of_lt_of_le (by have := World.block_lt_of_cell? _ _ hw402_2; first | rwa [add_block] at this | exact this) GW405.out) | (rw [add_block]; exact Nat.ne_of_lt (Nat.lt_of_lt_of_le (by have := World.block_lt_of_cell? _ _ hw402_2; first | rwa [add_block] at this | exact this) GW405.out)) | (show (Addr.add _ _).block ≠ _; rw [add_block]; exact Nat.ne_of_lt (Nat.lt_of_lt_of_le (by have := World.block_lt_of_cell? _ _ hw402_2; first | rwa [add_block] at this | exact this) GW405.out)) | (dsimp only; exact Nat.ne_of_lt (Nat.lt_of_lt_of_le (by have := World.block_lt_of_cell? _ _ hw402_2; first | rwa [add_block] at this | exact this) GW405.out))) _).trans (hHeld.2.2.2.2.2.1)))))))))))))), ((cell_far (p := ⟨gb405, _, none⟩) (by first | exact Nat.ne_of_lt (Nat.lt_of_lt_of_le (by have := World.block_lt_of_cell? _ _ hw402_3; first | rwa [add_block] at this | exact this) GW405.out) | (rw [add_block]; exact Nat.ne_of_lt (Nat.lt_of_lt_of_le (by have := World.block_lt_of_cell? _ _ hw402_3; first | rwa [add_block] at this | exact this) GW405.out)) | (show (Addr.add _ _).block ≠ _; rw [add_block]; exact Nat.ne_of_lt (Nat.lt_of_lt_of_le (by have := World.block_lt_of_cell? _ _ hw402_3; first | rwa [add_block] at this | exact this) GW405.out)) | (dsimp only; exact Nat.ne_of_lt (Nat.lt_of_lt_of_le (by have := World.block_lt_of_cell? _ _ hw402_3; first | rwa [add_block] at this | exact this) GW405.out))) _).trans (((cell_far (p := ⟨gb405, _, none⟩) (by first | exact Nat.ne_of_lt (Nat.lt_of_lt_of_le (by have := World.block_lt_of_cell? _ _ hw402_3; first | rwa [add_block] at this | exact this) GW405.out) | (rw [add_block]; exact Nat.ne_of_lt (Nat.lt_of_lt_of_le (by have := World.block_lt_of_cell? _ _ hw402_3; first | rwa [add_block] at this | exact this) GW405.out)) | (show (Addr.add _ _).block ≠ _; rw [add_block]; exact Nat.ne_of_lt (Nat.lt_of_lt_of_le (by have := World.block_lt_of_cell? _ _ hw402_3; first | rwa [add_block] at this | exact this) GW405.out)) | (dsimp only; exact Nat.ne_of_lt (Nat.lt_of_lt_of_le (by have := World.block_lt_of_cell? _ _ hw402_3; first | rwa [add_block] at this | exact this) GW405.out))) _).trans (((cell_far (p := ⟨gb405, _, none⟩) (by first | exact Nat.ne_of_lt (Nat.lt_of_lt_of_le (by have := World.block_lt_of_cell? _ _ hw402_3; first | rwa [add_block] at this | exact this) GW405.out) | (rw [add_block]; exact Nat.ne_of_lt (Nat.lt_of_lt_of_le (by have := World.block_lt_of_cell? _ _ hw402_3; first | rwa [add_block] at this | exact this) GW405.out)) | (show (Addr.add _ _).block ≠ _; rw [add_block]; exact Nat.ne_of_lt (Nat.lt_of_lt_of_le (by have := World.block_lt_of_cell? _ _ hw402_3; first | rwa [add_block] at this | exact this) GW405.out)) | (dsimp only; exact Nat.ne_of_lt (Nat.lt_of_lt_of_le (by have := World.block_lt_of_cell? _ _ hw402_3; first | rwa [add_block] at this | exact this) GW405.out))) _).trans (((cell_far (p := ⟨gb405, _, none⟩) (by first | exact Nat.ne_of_lt (Nat.lt_of_lt_of_le (by have := World.block_lt_of_cell? _ _ hw402_3; first | rwa [add_block] at this | exact this) GW405.out) | (rw [add_block]; exact Nat.ne_of_lt (Nat.lt_of_lt_of_le (by have := World.block_lt_of_cell? _ _ hw402_3; first | rwa [add_block] at this | exact this) GW405.out)) | (show (Addr.add _ _).block ≠ _; rw [add_block]; exact Nat.ne_of_lt (Nat.lt_of_lt_of_le (by have := World.block_lt_of_cell? _ _ hw402_3; first | rwa [add_block] at this | exact this) GW405.out)) | (dsimp only; exact Nat.ne_of_lt (Nat.lt_of_lt_of_le (by have := World.block_lt_of_cell? _ _ hw402_3; first | rwa [add_block] at this | exact this) GW405.out))) _).trans (((cell_far (p := ⟨gb405, _, none⟩) (by first | exact Nat.ne_of_lt (Nat.lt_of_lt_of_le (by have := World.block_lt_of_cell? _ _ hw402_3; first | rwa [add_block] at this | exact this) GW405.out) | (rw [add_block]; exact Nat.ne_of_lt (Nat.lt_of_lt_of_le (by have := World.block_lt_of_cell? _ _ hw402_3; first | rwa [add_block] at this | exact this) GW405.out)) | (show (Addr.add _ _).block ≠ _; rw [add_block]; exact Nat.ne_of_lt (Nat.lt_of_lt_of_le (by have := World.block_lt_of_cell? _ _ hw402_3; first | rwa [add_block] at this | exact this) GW405.out)) | (dsimp only; exact Nat.ne_of_lt (Nat.lt_of_lt_of_le (by have := World.block_lt_of_cell? _ _ hw402_3; first | rwa [add_block] at this | exact this) GW405.out))) _).trans (((cell_far (p := ⟨gb405, _, none⟩) (by first | exact Nat.ne_of_lt (Nat.lt_of_lt_of_le (by have := World.block_lt_of_cell? _ _ hw402_3; first | rwa [add_block] at this | exact this) GW405.out) | (rw [add_block]; exact Nat.ne_of_lt (Nat.lt_of_lt_of_le (by have := World.block_lt_of_cell? _ _ hw402_3; first | rwa [add_block] at this | exact this) GW405.out)) | (show (Addr.add _ _).block ≠ _; rw [add_block]; exact Nat.ne_of_lt (Nat.lt_of_lt_of_le (by have := World.block_lt_of_cell? _ _ hw402_3; first | rwa [add_block] at this | exact this) GW405.out)) | (dsimp only; exact Nat.ne_of_lt (Nat.lt_of_lt_of_le (by have := World.block_lt_of_cell? _ _ hw402_3; first | rwa [add_block] at this | exact this) GW405.out))) _).trans (((cell_far (p := ⟨gb405, _, none⟩) (by first | exact Nat.ne_of_lt (Nat.lt_of_lt_of_le (by have := World.block_lt_of_cell? _ _ hw402_3; first | rwa [add_block] at this | exact this) GW405.out) | (rw [add_block]; exact Nat.ne_of_lt (Nat.lt_of_lt_of_le (by have := World.block_lt_of_cell? _ _ hw402_3; first | rwa [add_block] at this | exact this) GW405.out)) | (show (Addr.add _ _).block ≠ _; rw [add_block]; exact Nat.ne_of_lt (Nat.lt_of_lt_of_le (by have := World.block_lt_of_cell? _ _ hw402_3; first | rwa [add_block] at this | exact this) GW405.out)) | (dsimp only; exact Nat.ne_of_lt (Nat.lt_of_lt_of_le (by have := World.block_lt_of_cell? _ _ hw402_3; first | rwa [add_block] at this | exact this) GW405.out))) _).trans (hHeld.2.2.2.2.2.2.1)))))))))))))), ((cell_far (p := ⟨gb405, _, none⟩) (by first | exact Nat.ne_of_lt (Nat.lt_of_lt_of_le (by have := World.block_lt_of_cell? _ _ hw402_4; first | rwa [add_block] at this | exact this) GW405.out) | (rw [add_block]; exact Nat.ne_of_lt (Nat.lt_of_lt_of_le (by have := World.block_lt_of_cell? _ _ hw402_4; first | rwa [add_block] at this | exact this) GW405.out)) | (show (Addr.add _ _).block ≠ _; rw [add_block]; exact Nat.ne_of_lt (Nat.lt_of_lt_of_le (by have := World.block_lt_of_cell? _ _ hw402_4; first | rwa [add_block] at this | exact this) GW405.out)) | (dsimp only; exact Nat.ne_of_lt (Nat.lt_of_lt_of_le (by have := World.block_lt_of_cell? _ _ hw402_4; first | rwa [add_block] at this | exact this) GW405.out))) _).trans (((cell_far (p := ⟨gb405, _, none⟩) (by first | exact Nat.ne_of_lt (Nat.lt_of_lt_of_le (by have := World.block_lt_of_cell? _ _ hw402_4; first | rwa [add_block] at this | exact this) GW405.out) | (rw [add_block]; exact Nat.ne_of_lt (Nat.lt_of_lt_of_le (by have := World.block_lt_of_cell? _ _ hw402_4; first | rwa [add_block] at this | exact this) GW405.out)) | (show (Addr.add _ _).block ≠ _; rw [add_block]; exact Nat.ne_of_lt (Nat.lt_of_lt_of_le (by have := World.block_lt_of_cell? _ _ hw402_4; first | rwa [add_block] at this | exact this) GW405.out)) | (dsimp only; exact Nat.ne_of_lt (Nat.lt_of_lt_of_le (by have := World.block_lt_of_cell? _ _ hw402_4; first | rwa [add_block] at this | exact this) GW405.out))) _).trans (((cell_far (p := ⟨gb405, _, none⟩) (by first | exact Nat.ne_of_lt (Nat.lt_of_lt_of_le (by have := World.block_lt_of_cell? _ _ hw402_4; first | rwa [add_block] at this | exact this) GW405.out) | (rw [add_block]; exact Nat.ne_of_lt (Nat.lt_of_lt_of_le (by have := World.block_lt_of_cell? _ _ hw402_4; first | rwa [add_block] at this | exact this) GW405.out)) | (show (Addr.add _ _).block ≠ _; rw [add_block]; exact Nat.ne_of_lt (Nat.lt_of_lt_of_le (by have := World.block_lt_of_cell? _ _ hw402_4; first | rwa [add_block] at this | exact this) GW405.out)) | (dsimp only; exact Nat.ne_of_lt (Nat.lt_of_lt_of_le (by have := World.block_lt_of_cell? _ _ hw402_4; first | rwa [add_block] at this | exact this) GW405.out))) _).trans (((cell_far (p := ⟨gb405, _, none⟩) (by first | exact Nat.ne_of_lt (Nat.lt_of_lt_of_le (by have := World.block_lt_of_cell? _ _ hw402_4; first | rwa [add_block] at this | exact this) GW405.out) | (rw [add_block]; exact Nat.ne_of_lt (Nat.lt_of_lt_of_le (by have := World.block_lt_of_cell? _ _ hw402_4; first | rwa [add_block] at this | exact this) GW405.out)) | (show (Addr.add _ _).block ≠ _; rw [add_block]; exact Nat.ne_of_lt (Nat.lt_of_lt_of_le (by have := World.block_lt_of_cell? _ _ hw402_4; first | rwa [add_block] at this | exact this) GW405.out)) | (dsimp only; exact Nat.ne_of_lt (Nat.lt_of_lt_of_le (by have := World.block_lt_of_cell? _ _ hw402_4; first | rwa [add_block] at this | exact this) GW405.out))) _).trans (((cell_far (p := ⟨gb405, _, none⟩) (by first | exact Nat.ne_of_lt (Nat.lt_of_lt_of_le (by have := World.block_lt_of_cell? _ _ hw402_4; first | rwa [add_block] at this | exact this) GW405.out) | (rw [add_block]; exact Nat.ne_of_lt (Nat.lt_of_lt_of_le (by have := World.block_lt_of_cell? _ _ hw402_4; first | rwa [add_block] at this | exact this) GW405.out)) | (show (Addr.add _ _).block ≠ _; rw [add_block]; exact Nat.ne_of_lt (Nat.lt_of_lt_of_le (by have := World.block_lt_of_cell? _ _ hw402_4; first | rwa [add_block] at this | exact this) GW405.out)) | (dsimp only; exact Nat.ne_of_lt (Nat.lt_of_lt_of_le (by have := World.block_lt_of_cell? _ _ hw402_4; first | rwa [add_block] at this | exact this) GW405.out))) _).trans (((cell_far (p := ⟨gb405, _, none⟩) (by first | exact Nat.ne_of_lt (Nat.lt_of_lt_of_le (by have := World.block_lt_of_cell? _ _ hw402_4; first | rwa [add_block] at this | exact this) GW405.out) | (rw [add_block]; exact Nat.ne_of_lt (Nat.lt_of_lt_of_le (by have := World.block_lt_of_cell? _ _ hw402_4; first | rwa [add_block] at this | exact this) GW405.out)) | (show (Addr.add _ _).block ≠ _; rw [add_block]; exact Nat.ne_of_lt (Nat.lt_of_lt_of_le (by have := World.block_lt_of_cell? _ _ hw402_4; first | rwa [add_block] at this | exact this) GW405.out)) | (dsimp only; exact Nat.ne_of_lt (Nat.lt_of_lt_of_le (by have := World.block_lt_of_cell? _ _ hw402_4; first | rwa [add_block] at this | exact this) GW405.out))) _).trans (((cell_far (p := ⟨gb405, _, none⟩) (by first | exact Nat.ne_of_lt (Nat.lt_of_lt_of_le (by have := World.block_lt_of_cell? _ _ hw402_4; first | rwa [add_block] at this | exact this) GW405.out) | (rw [add_block]; exact Nat.ne_of_lt (Nat.lt_of_lt_of_le (by have := World.block_lt_of_cell? _ _ hw402_4; first | rwa [add_block] at this | exact this) GW405.out)) | (show (Addr.add _ _).block ≠ _; rw [add_block]; exact Nat.ne_of_lt (Nat.lt_of_lt_of_le (by have := World.block_lt_of_cell? _ _ hw402_4; first | rwa [add_block] at this | exact this) GW405.out)) | (dsimp only; exact Nat.ne_of_lt (Nat.lt_of_lt_of_le (by have := World.block_lt_of_cell? _ _ hw402_4; first | rwa [add_block] at this | exact this) GW405.out))) _).trans (hHeld.2.2.2.2.2.2.2.1)))))))))))))), ((cell_far (p := ⟨gb405, _, none⟩) (by first | exact Nat.ne_of_lt (Nat.lt_of_lt_of_le (by have := World.block_lt_of_cell? _ _ hw402_5; first | rwa [add_block] at this | exact this) GW405.out) | (rw [add_block]; exact Nat.ne_of_lt (Nat.lt_of_lt_of_le (by have := World.block_lt_of_cell? _ _ hw402_5; first | rwa [add_block] at this | exact this) GW405.out)) | (show (Addr.add _ _).block ≠ _; rw [add_block]; exact Nat.ne_of_lt (Nat.lt_of_lt_of_le (by have := World.block_lt_of_cell? _ _ hw402_5; first | rwa [add_block] at this | exact this) GW405.out)) | (dsimp only; exact Nat.ne_of_lt (Nat.lt_of_lt_of_le (by have := World.block_lt_of_cell? _ _ hw402_5; first | rwa [add_block] at this | exact this) GW405.out))) _).trans (((cell_far (p := ⟨gb405, _, none⟩) (by first | exact Nat.ne_of_lt (Nat.lt_of_lt_of_le (by have := World.block_lt_of_cell? _ _ hw402_5; first | rwa [add_block] at this | exact this) GW405.out) | (rw [add_block]; exact Nat.ne_of_lt (Nat.lt_of_lt_of_le (by have := World.block_lt_of_cell? _ _ hw402_5; first | rwa [add_block] at this | exact this) GW405.out)) | (show (Addr.add _ _).block ≠ _; rw [add_block]; exact Nat.ne_of_lt (Nat.lt_of_lt_of_le (by have := World.block_lt_of_cell? _ _ hw402_5; first | rwa [add_block] at this | exact this) GW405.out)) | (dsimp only; exact Nat.ne_of_lt (Nat.lt_of_lt_of_le (by have := World.block_lt_of_cell? _ _ hw402_5; first | rwa [add_block] at this | exact this) GW405.out))) _).trans (((cell_far (p := ⟨gb405, _, none⟩) (by first | exact Nat.ne_of_lt (Nat.lt_of_lt_of_le (by have := World.block_lt_of_cell? _ _ hw402_5; first | rwa [add_block] at this | exact this) GW405.out) | (rw [add_block]; exact Nat.ne_of_lt (Nat.lt_of_lt_of_le (by have := World.block_lt_of_cell? _ _ hw402_5; first | rwa [add_block] at this | exact this) GW405.out)) | (show (Addr.add _ _).block ≠ _; rw [add_block]; exact Nat.ne_of_lt (Nat.lt_of_lt_of_le (by have := World.block_lt_of_cell? _ _ hw402_5; first | rwa [add_block] at this | exact this) GW405.out)) | (dsimp only; exact Nat.ne_of_lt (Nat.lt_of_lt_of_le (by have := World.block_lt_of_cell? _ _ hw402_5; first | rwa [add_block] at this | exact this) GW405.out))) _).trans (((cell_far (p := ⟨gb405, _, none⟩) (by first | exact Nat.ne_of_lt (Nat.lt_of_lt_of_le (by have := World.block_lt_of_cell? _ _ hw402_5; first | rwa [add_block] at this | exact this) GW405.out) | (rw [add_block]; exact Nat.ne_of_lt (Nat.lt_of_lt_of_le (by have := World.block_lt_of_cell? _ _ hw402_5; first | rwa [add_block] at this | exact this) GW405.out)) | (show (Addr.add _ _).block ≠ _; rw [add_block]; exact Nat.ne_of_lt (Nat.lt_of_lt_of_le (by have := World.block_lt_of_cell? _ _ hw402_5; first | rwa [add_block] at this | exact this) GW405.out)) | (dsimp only; exact Nat.ne_of_lt (Nat.lt_of_lt_of_le (by have := World.block_lt_of_cell? _ _ hw402_5; first | rwa [add_block] at this | exact this) GW405.out))) _).trans (((cell_far (p := ⟨gb405, _, none⟩) (by first | exact Nat.ne_of_lt (Nat.lt_of_lt_of_le (by have := World.block_lt_of_cell? _ _ hw402_5; first | rwa [add_block] at this | exact this) GW405.out) | (rw [add_block]; exact Nat.ne_of_lt (Nat.lt_of_lt_of_le (by have := World.block_lt_of_cell? _ _ hw402_5; first | rwa [add_block] at this | exact this) GW405.out)) | (show (Addr.add _ _).block ≠ _; rw [add_block]; exact Nat.ne_of_lt (Nat.lt_of_lt_of_le (by have := World.block_lt_of_cell? _ _ hw402_5; first | rwa [add_block] at this | exact this) GW405.out)) | (dsimp only; exact Nat.ne_of_lt (Nat.lt_of_lt_of_le (by have := World.block_lt_of_cell? _ _ hw402_5; first | rwa [add_block] at this | exact this) GW405.out))) _).trans (((cell_far (p := ⟨gb405, _, none⟩) (by first | exact Nat.ne_of_lt (Nat.lt_of_lt_of_le (by have := World.block_lt_of_cell? _ _ hw402_5; first | rwa [add_block] at this | exact this) GW405.out) | (rw [add_block]; exact Nat.ne_of_lt (Nat.lt_of_lt_of_le (by have := World.block_lt_of_cell? _ _ hw402_5; first | rwa [add_block] at this | exact this) GW405.out)) | (show (Addr.add _ _).block ≠ _; rw [add_block]; exact Nat.ne_of_lt (Nat.lt_of_lt_of_le (by have := World.block_lt_of_cell? _ _ hw402_5; first | rwa [add_block] at this | exact this) GW405.out)) | (dsimp only; exact Nat.ne_of_lt (Nat.lt_of_lt_of_le (by have := World.block_lt_of_cell? _ _ hw402_5; first | rwa [add_block] at this | exact this) GW405.out))) _).trans (((cell_far (p := ⟨gb405, _, none⟩) (by first | exact Nat.ne_of_lt (Nat.lt_of_lt_of_le (by have := World.block_lt_of_cell? _ _ hw402_5; first | rwa [add_block] at this | exact this) GW405.out) | (rw [add_block]; exact Nat.ne_of_lt (Nat.lt_of_lt_of_le (by have := World.block_lt_of_cell? _ _ hw402_5; first | rwa [add_block] at this | exact this) GW405.out)) | (show (Addr.add _ _).block ≠ _; rw [add_block]; exact Nat.ne_of_lt (Nat.lt_of_lt_of_le (by have := World.block_lt_of_cell? _ _ hw402_5; first | rwa [add_block] at this | exact this) GW405.out)) | (dsimp only; exact Nat.ne_of_lt (Nat.lt_of_lt_of_le (by have := World.block_lt_of_cell? _ _ hw402_5; first | rwa [add_block] at this | exact this) GW405.out))) _).trans (hHeld.2.2.2.2.2.2.2.2.1)))))))))))))), ((cell_far (p := ⟨gb405, _, none⟩) (by first | exact Nat.ne_of_lt (Nat.lt_of_lt_of_le (by have := World.block_lt_of_cell? _ _ hw402_6; first | rwa [add_block] at this | exact this) GW405.out) | (rw [add_block]; exact Nat.ne_of_lt (Nat.lt_of_lt_of_le (by have := World.block_lt_of_cell? _ _ hw402_6; first | rwa [add_block] at this | exact this) GW405.out)) | (show (Addr.add _ _).block ≠ _; rw [add_block]; exact Nat.ne_of_lt (Nat.lt_of_lt_of_le (by have := World.block_lt_of_cell? _ _ hw402_6; first | rwa [add_block] at this | exact this) GW405.out)) | (dsimp only; exact Nat.ne_of_lt (Nat.lt_of_lt_of_le (by have := World.block_lt_of_cell? _ _ hw402_6; first | rwa [add_block] at this | exact this) GW405.out))) _).trans (((cell_far (p := ⟨gb405, _, none⟩) (by first | exact Nat.ne_of_lt (Nat.lt_of_lt_of_le (by have := World.block_lt_of_cell? _ _ hw402_6; first | rwa [add_block] at this | exact this) GW405.out) | (rw [add_block]; exact Nat.ne_of_lt (Nat.lt_of_lt_of_le (by have := World.block_lt_of_cell? _ _ hw402_6; first | rwa [add_block] at this | exact this) GW405.out)) | (show (Addr.add _ _).block ≠ _; rw [add_block]; exact Nat.ne_of_lt (Nat.lt_of_lt_of_le (by have := World.block_lt_of_cell? _ _ hw402_6; first | rwa [add_block] at this | exact this) GW405.out)) | (dsimp only; exact Nat.ne_of_lt (Nat.lt_of_lt_of_le (by have := World.block_lt_of_cell? _ _ hw402_6; first | rwa [add_block] at this | exact this) GW405.out))) _).trans (((cell_far (p := ⟨gb405, _, none⟩) (by first | exact Nat.ne_of_lt (Nat.lt_of_lt_of_le (by have := World.block_lt_of_cell? _ _ hw402_6; first | rwa [add_block] at this | exact this) GW405.out) | (rw [add_block]; exact Nat.ne_of_lt (Nat.lt_of_lt_of_le (by have := World.block_lt_of_cell? _ _ hw402_6; first | rwa [add_block] at this | exact this) GW405.out)) | (show (Addr.add _ _).block ≠ _; rw [add_block]; exact Nat.ne_of_lt (Nat.lt_of_lt_of_le (by have := World.block_lt_of_cell? _ _ hw402_6; first | rwa [add_block] at this | exact this) GW405.out)) | (dsimp only; exact Nat.ne_of_lt (Nat.lt_of_lt_of_le (by have := World.block_lt_of_cell? _ _ hw402_6; first | rwa [add_block] at this | exact this) GW405.out))) _).trans (((cell_far (p := ⟨gb405, _, none⟩) (by first | exact Nat.ne_of_lt (Nat.lt_of_lt_of_le (by have := World.block_lt_of_cell? _ _ hw402_6; first | rwa [add_block] at this | exact this) GW405.out) | (rw [add_block]; exact Nat.ne_of_lt (Nat.lt_of_lt_of_le (by have := World.block_lt_of_cell? _ _ hw402_6; first | rwa [add_block] at this | exact this) GW405.out)) | (show (Addr.add _ _).block ≠ _; rw [add_block]; exact Nat.ne_of_lt (Nat.lt_of_lt_of_le (by have := World.block_lt_of_cell? _ _ hw402_6; first | rwa [add_block] at this | exact this) GW405.out)) | (dsimp only; exact Nat.ne_of_lt (Nat.lt_of_lt_of_le (by have := World.block_lt_of_cell? _ _ hw402_6; first | rwa [add_block] at this | exact this) GW405.out))) _).trans (((cell_far (p := ⟨gb405, _, none⟩) (by first | exact Nat.ne_of_lt (Nat.lt_of_lt_of_le (by have := World.block_lt_of_cell? _ _ hw402_6; first | rwa [add_block] at this | exact this) GW405.out) | (rw [add_block]; exact Nat.ne_of_lt (Nat.lt_of_lt_of_le (by have := World.block_lt_of_cell? _ _ hw402_6; first | rwa [add_block] at this | exact this) GW405.out)) | (show (Addr.add _ _).block ≠ _; rw [add_block]; exact Nat.ne_of_lt (Nat.lt_of_lt_of_le (by have := World.block_lt_of_cell? _ _ hw402_6; first | rwa [add_block] at this | exact this) GW405.out)) | (dsimp only; exact Nat.ne_of_lt (Nat.lt_of_lt_of_le (by have := World.block_lt_of_cell? _ _ hw402_6; first | rwa [add_block] at this | exact this) GW405.out))) _).trans (((cell_far (p := ⟨gb405, _, none⟩) (by first | exact Nat.ne_of_lt (Nat.lt_of_lt_of_le (by have := World.block_lt_of_cell? _ _ hw402_6; first | rwa [add_block] at this | exact this) GW405.out) | (rw [add_block]; exact Nat.ne_of_lt (Nat.lt_of_lt_of_le (by have := World.block_lt_of_cell? _ _ hw402_6; first | rwa [add_block] at this | exact this) GW405.out)) | (show (Addr.add _ _).block ≠ _; rw [add_block]; exact Nat.ne_of_lt (Nat.lt_of_lt_of_le (by have := World.block_lt_of_cell? _ _ hw402_6; first | rwa [add_block] at this | exact this) GW405.out)) | (dsimp only; exact Nat.ne_of_lt (Nat.lt_of_lt_of_le (by have := World.block_lt_of_cell? _ _ hw402_6; first | rwa [add_block] at this | exact this) GW405.out))) _).trans (((cell_far (p := ⟨gb405, _, none⟩) (by first | exact Nat.ne_of_lt (Nat.lt_of_lt_of_le (by have := World.block_lt_of_cell? _ _ hw402_6; first | rwa [add_block] at this | exact this) GW405.out) | (rw [add_block]; exact Nat.ne_of_lt (Nat.lt_of_lt_of_le (by have := World.block_lt_of_cell? _ _ hw402_6; first | rwa [add_block] at this | exact this) GW405.out)) | (show (Addr.add _ _).block ≠ _; rw [add_block]; exact Nat.ne_of_lt (Nat.lt_of_lt_of_le (by have := World.block_lt_of_cell? _ _ hw402_6; first | rwa [add_block] at this | exact this) GW405.out)) | (dsimp only; exact Nat.ne_of_lt (Nat.lt_of_lt_of_le (by have := World.block_lt_of_cell? _ _ hw402_6; first | rwa [add_block] at this | exact this) GW405.out))) _).trans (hHeld.2.2.2.2.2.2.2.2.2.1)))))))))))))), ((cell_far (p := ⟨gb405, _, none⟩) (by first | exact Nat.ne_of_lt (Nat.lt_of_lt_of_le (by have := World.block_lt_of_cell? _ _ hw404_0; first | rwa [add_block] at this | exact this) GW405.out) | (rw [add_block]; exact Nat.ne_of_lt (Nat.lt_of_lt_of_le (by have := World.block_lt_of_cell? _ _ hw404_0; first | rwa [add_block] at this | exact this) GW405.out)) | (show (Addr.add _ _).block ≠ _; rw [add_block]; exact Nat.ne_of_lt (Nat.lt_of_lt_of_le (by have := World.block_lt_of_cell? _ _ hw404_0; first | rwa [add_block] at this | exact this) GW405.out)) | (dsimp only; exact Nat.ne_of_lt (Nat.lt_of_lt_of_le (by have := World.block_lt_of_cell? _ _ hw404_0; first | rwa [add_block] at this | exact this) GW405.out))) _).trans (((cell_far (p := ⟨gb405, _, none⟩) (by first | exact Nat.ne_of_lt (Nat.lt_of_lt_of_le (by have := World.block_lt_of_cell? _ _ hw404_0; first | rwa [add_block] at this | exact this) GW405.out) | (rw [add_block]; exact Nat.ne_of_lt (Nat.lt_of_lt_of_le (by have := World.block_lt_of_cell? _ _ hw404_0; first | rwa [add_block] at this | exact this) GW405.out)) | (show (Addr.add _ _).block ≠ _; rw [add_block]; exact Nat.ne_of_lt (Nat.lt_of_lt_of_le (by have := World.block_lt_of_cell? _ _ hw404_0; first | rwa [add_block] at this | exact this) GW405.out)) | (dsimp only; exact Nat.ne_of_lt (Nat.lt_of_lt_of_le (by have := World.block_lt_of_cell? _ _ hw404_0; first | rwa [add_block] at this | exact this) GW405.out))) _).trans (((cell_far (p := ⟨gb405, _, none⟩) (by first | exact Nat.ne_of_lt (Nat.lt_of_lt_of_le (by have := World.block_lt_of_cell? _ _ hw404_0; first | rwa [add_block] at this | exact this) GW405.out) | (rw [add_block]; exact Nat.ne_of_lt (Nat.lt_of_lt_of_le (by have := World.block_lt_of_cell? _ _ hw404_0; first | rwa [add_block] at this | exact this) GW405.out)) | (show (Addr.add _ _).block ≠ _; rw [add_block]; exact Nat.ne_of_lt (Nat.lt_of_lt_of_le (by have := World.block_lt_of_cell? _ _ hw404_0; first | rwa [add_block] at this | exact this) GW405.out)) | (dsimp only; exact Nat.ne_of_lt (Nat.lt_of_lt_of_le (by have := World.block_lt_of_cell? _ _ hw404_0; first | rwa [add_block] at this | exact this) GW405.out))) _).trans (((cell_far (p := ⟨gb405, _, none⟩) (by first | exact Nat.ne_of_lt (Nat.lt_of_lt_of_le (by have := World.block_lt_of_cell? _ _ hw404_0; first | rwa [add_block] at this | exact this) GW405.out) | (rw [add_block]; exact Nat.ne_of_lt (Nat.lt_of_lt_of_le (by have := World.block_lt_of_cell? _ _ hw404_0; first | rwa [add_block] at this | exact this) GW405.out)) | (show (Addr.add _ _).block ≠ _; rw [add_block]; exact Nat.ne_of_lt (Nat.lt_of_lt_of_le (by have := World.block_lt_of_cell? _ _ hw404_0; first | rwa [add_block] at this | exact this) GW405.out)) | (dsimp only; exact Nat.ne_of_lt (Nat.lt_of_lt_of_le (by have := World.block_lt_of_cell? _ _ hw404_0; first | rwa [add_block] at this | exact this) GW405.out))) _).trans (((cell_far (p := ⟨gb405, _, none⟩) (by first | exact Nat.ne_of_lt (Nat.lt_of_lt_of_le (by have := World.block_lt_of_cell? _ _ hw404_0; first | rwa [add_block] at this | exact this) GW405.out) | (rw [add_block]; exact Nat.ne_of_lt (Nat.lt_of_lt_of_le (by have := World.block_lt_of_cell? _ _ hw404_0; first | rwa [add_block] at this | exact this) GW405.out)) | (show (Addr.add _ _).block ≠ _; rw [add_block]; exact Nat.ne_of_lt (Nat.lt_of_lt_of_le (by have := World.block_lt_of_cell? _ _ hw404_0; first | rwa [add_block] at this | exact this) GW405.out)) | (dsimp only; exact Nat.ne_of_lt (Nat.lt_of_lt_of_le (by have := World.block_lt_of_cell? _ _ hw404_0; first | rwa [add_block] at this | exact this) GW405.out))) _).trans (((cell_far (p := ⟨gb405, _, none⟩) (by first | exact Nat.ne_of_lt (Nat.lt_of_lt_of_le (by have := World.block_lt_of_cell? _ _ hw404_0; first | rwa [add_block] at this | exact this) GW405.out) | (rw [add_block]; exact Nat.ne_of_lt (Nat.lt_of_lt_of_le (by have := World.block_lt_of_cell? _ _ hw404_0; first | rwa [add_block] at this | exact this) GW405.out)) | (show (Addr.add _ _).block ≠ _; rw [add_block]; exact Nat.ne_of_lt (Nat.lt_of_lt_of_le (by have := World.block_lt_of_cell? _ _ hw404_0; first | rwa [add_block] at this | exact this) GW405.out)) | (dsimp only; exact Nat.ne_of_lt (Nat.lt_of_lt_of_le (by have := World.block_lt_of_cell? _ _ hw404_0; first | rwa [add_block] at this | exact this) GW405.out))) _).trans (((cell_far (p := ⟨gb405, _, none⟩) (by first | exact Nat.ne_of_lt (Nat.lt_of_lt_of_le (by have := World.block_lt_of_cell? _ _ hw404_0; first | rwa [add_block] at this | exact this) GW405.out) | (rw [add_block]; exact Nat.ne_of_lt (Nat.lt_of_lt_of_le (by have := World.block_lt_of_cell? _ _ hw404_0; first | rwa [add_block] at this | exact this) GW405.out)) | (show (Addr.add _ _).block ≠ _; rw [add_block]; exact Nat.ne_of_lt (Nat.lt_of_lt_of_le (by have := World.block_lt_of_cell? _ _ hw404_0; first | rwa [add_block] at this | exact this) GW405.out)) | (dsimp only; exact Nat.ne_of_lt (Nat.lt_of_lt_of_le (by have := World.block_lt_of_cell? _ _ hw404_0; first | rwa [add_block] at this | exact this) GW405.out))) _).trans (hHeld.2.2.2.2.2.2.2.2.2.2.1)))))))))))))), ((cell_far (p := ⟨gb405, _, none⟩) (by first | exact Nat.ne_of_lt (Nat.lt_of_lt_of_le (by have := World.block_lt_of_cell? _ _ hw404_1; first | rwa [add_block] at this | exact this) GW405.out) | (rw [add_block]; exact Nat.ne_of_lt (Nat.lt_of_lt_of_le (by have := World.block_lt_of_cell? _ _ hw404_1; first | rwa [add_block] at this | exact this) GW405.out)) | (show (Addr.add _ _).block ≠ _; rw [add_block]; exact Nat.ne_of_lt (Nat.lt_of_lt_of_le (by have := World.block_lt_of_cell? _ _ hw404_1; first | rwa [add_block] at this | exact this) GW405.out)) | (dsimp only; exact Nat.ne_of_lt (Nat.lt_of_lt_of_le (by have := World.block_lt_of_cell? _ _ hw404_1; first | rwa [add_block] at this | exact this) GW405.out))) _).trans (((cell_far (p := ⟨gb405, _, none⟩) (by first | exact Nat.ne_of_lt (Nat.lt_of_lt_of_le (by have := World.block_lt_of_cell? _ _ hw404_1; first | rwa [add_block] at this | exact this) GW405.out) | (rw [add_block]; exact Nat.ne_of_lt (Nat.lt_of_lt_of_le (by have := World.block_lt_of_cell? _ _ hw404_1; first | rwa [add_block] at this | exact this) GW405.out)) | (show (Addr.add _ _).block ≠ _; rw [add_block]; exact Nat.ne_of_lt (Nat.lt_of_lt_of_le (by have := World.block_lt_of_cell? _ _ hw404_1; first | rwa [add_block] at this | exact this) GW405.out)) | (dsimp only; exact Nat.ne_of_lt (Nat.lt_of_lt_of_le (by have := World.block_lt_of_cell? _ _ hw404_1; first | rwa [add_block] at this | exact this) GW405.out))) _).trans (((cell_far (p := ⟨gb405, _, none⟩) (by first | exact Nat.ne_of_lt (Nat.lt_of_lt_of_le (by have := World.block_lt_of_cell? _ _ hw404_1; first | rwa [add_block] at this | exact this) GW405.out) | (rw [add_block]; exact Nat.ne_of_lt (Nat.lt_of_lt_of_le (by have := World.block_lt_of_cell? _ _ hw404_1; first | rwa [add_block] at this | exact this) GW405.out)) | (show (Addr.add _ _).block ≠ _; rw [add_block]; exact Nat.ne_of_lt (Nat.lt_of_lt_of_le (by have := World.block_lt_of_cell? _ _ hw404_1; first | rwa [add_block] at this | exact this) GW405.out)) | (dsimp only; exact Nat.ne_of_lt (Nat.lt_of_lt_of_le (by have := World.block_lt_of_cell? _ _ hw404_1; first | rwa [add_block] at this | exact this) GW405.out))) _).trans (((cell_far (p := ⟨gb405, _, none⟩) (by first | exact Nat.ne_of_lt (Nat.lt_of_lt_of_le (by have := World.block_lt_of_cell? _ _ hw404_1; first | rwa [add_block] at this | exact this) GW405.out) | (rw [add_block]; exact Nat.ne_of_lt (Nat.lt_of_lt_of_le (by have := World.block_lt_of_cell? _ _ hw404_1; first | rwa [add_block] at this | exact this) GW405.out)) | (show (Addr.add _ _).block ≠ _; rw [add_block]; exact Nat.ne_of_lt (Nat.lt_of_lt_of_le (by have := World.block_lt_of_cell? _ _ hw404_1; first | rwa [add_block] at this | exact this) GW405.out)) | (dsimp only; exact Nat.ne_of_lt (Nat.lt_of_lt_of_le (by have := World.block_lt_of_cell? _ _ hw404_1; first | rwa [add_block] at this | exact this) GW405.out))) _).trans (((cell_far (p := ⟨gb405, _, none⟩) (by first | exact Nat.ne_of_lt (Nat.lt_of_lt_of_le (by have := World.block_lt_of_cell? _ _ hw404_1; first | rwa [add_block] at this | exact this) GW405.out) | (rw [add_block]; exact Nat.ne_of_lt (Nat.lt_of_lt_of_le (by have := World.block_lt_of_cell? _ _ hw404_1; first | rwa [add_block] at this | exact this) GW405.out)) | (show (Addr.add _ _).block ≠ _; rw [add_block]; exact Nat.ne_of_lt (Nat.lt_of_lt_of_le (by have := World.block_lt_of_cell? _ _ hw404_1; first | rwa [add_block] at this | exact this) GW405.out)) | (dsimp only; exact Nat.ne_of_lt (Nat.lt_of_lt_of_le (by have := World.block_lt_of_cell? _ _ hw404_1; first | rwa [add_block] at this | exact this) GW405.out))) _).trans (((cell_far (p := ⟨gb405, _, none⟩) (by first | exact Nat.ne_of_lt (Nat.lt_of_lt_of_le (by have := World.block_lt_of_cell? _ _ hw404_1; first | rwa [add_block] at this | exact this) GW405.out) | (rw [add_block]; exact Nat.ne_of_lt (Nat.lt_of_lt_of_le (by have := World.block_lt_of_cell? _ _ hw404_1; first | rwa [add_block] at this | exact this) GW405.out)) | (show (Addr.add _ _).block ≠ _; rw [add_block]; exact Nat.ne_of_lt (Nat.lt_of_lt_of_le (by have := World.block_lt_of_cell? _ _ hw404_1; first | rwa [add_block] at this | exact this) GW405.out)) | (dsimp only; exact Nat.ne_of_lt (Nat.lt_of_lt_of_le (by have := World.block_lt_of_cell? _ _ hw404_1; first | rwa [add_block] at this | exact this) GW405.out))) _).trans (((cell_far (p := ⟨gb405, _, none⟩) (by first | exact Nat.ne_of_lt (Nat.lt_of_lt_of_le (by have := World.block_lt_of_cell? _ _ hw404_1; first | rwa [add_block] at this | exact this) GW405.out) | (rw [add_block]; exact Nat.ne_of_lt (Nat.lt_of_lt_of_le (by have := World.block_lt_of_cell? _ _ hw404_1; first | rwa [add_block] at this | exact this) GW405.out)) | (show (Addr.add _ _).block ≠ _; rw [add_block]; exact Nat.ne_of_lt (Nat.lt_of_lt_of_le (by have := World.block_lt_of_cell? _ _ hw404_1; first | rwa [add_block] at this | exact this) GW405.out)) | (dsimp only; exact Nat.ne_of_lt (Nat.lt_of_lt_of_le (by have := World.block_lt_of_cell? _ _ hw404_1; first | rwa [add_block] at this | exact this) GW405.out))) _).trans (hHeld.2.2.2.2.2.2.2.2.2.2.2.1)))))))))))))), ((cell_far (p := ⟨gb405, _, none⟩) (by first | exact Nat.ne_of_lt (Nat.lt_of_lt_of_le (by have := World.block_lt_of_cell? _ _ hw404_2; first | rwa [add_block] at this | exact this) GW405.out) | (rw [add_block]; exact Nat.ne_of_lt (Nat.lt_of_lt_of_le (by have := World.block_lt_of_cell? _ _ hw404_2; first | rwa [add_block] at this | exact this) GW405.out)) | (show (Addr.add _ _).block ≠ _; rw [add_block]; exact Nat.ne_of_lt (Nat.lt_of_lt_of_le (by have := World.block_lt_of_cell? _ _ hw404_2; first | rwa [add_block] at this | exact this) GW405.out)) | (dsimp only; exact Nat.ne_of_lt (Nat.lt_of_lt_of_le (by have := World.block_lt_of_cell? _ _ hw404_2; first | rwa [add_block] at this | exact this) GW405.out))) _).trans (((cell_far (p := ⟨gb405, _, none⟩) (by first | exact Nat.ne_of_lt (Nat.lt_of_lt_of_le (by have := World.block_lt_of_cell? _ _ hw404_2; first | rwa [add_block] at this | exact this) GW405.out) | (rw [add_block]; exact Nat.ne_of_lt (Nat.lt_of_lt_of_le (by have := World.block_lt_of_cell? _ _ hw404_2; first | rwa [add_block] at this | exact this) GW405.out)) | (show (Addr.add _ _).block ≠ _; rw [add_block]; exact Nat.ne_of_lt (Nat.lt_of_lt_of_le (by have := World.block_lt_of_cell? _ _ hw404_2; first | rwa [add_block] at this | exact this) GW405.out)) | (dsimp only; exact Nat.ne_of_lt (Nat.lt_of_lt_of_le (by have := World.block_lt_of_cell? _ _ hw404_2; first | rwa [add_block] at this | exact this) GW405.out))) _).trans (((cell_far (p := ⟨gb405, _, none⟩) (by first | exact Nat.ne_of_lt (Nat.lt_of_lt_of_le (by have := World.block_lt_of_cell? _ _ hw404_2; first | rwa [add_block] at this | exact this) GW405.out) | (rw [add_block]; exact Nat.ne_of_lt (Nat.lt_of_lt_of_le (by have := World.block_lt_of_cell? _ _ hw404_2; first | rwa [add_block] at this | exact this) GW405.out)) | (show (Addr.add _ _).block ≠ _; rw [add_block]; exact Nat.ne_of_lt (Nat.lt_of_lt_of_le (by have := World.block_lt_of_cell? _ _ hw404_2; first | rwa [add_block] at this | exact this) GW405.out)) | (dsimp only; exact Nat.ne_of_lt (Nat.lt_of_lt_of_le (by have := World.block_lt_of_cell? _ _ hw404_2; first | rwa [add_block] at this | exact this) GW405.out))) _).trans (((cell_far (p := ⟨gb405, _, none⟩) (by first | exact Nat.ne_of_lt (Nat.lt_of_lt_of_le (by have := World.block_lt_of_cell? _ _ hw404_2; first | rwa [add_block] at this | exact this) GW405.out) | (rw [add_block]; exact Nat.ne_of_lt (Nat.lt_of_lt_of_le (by have := World.block_lt_of_cell? _ _ hw404_2; first | rwa [add_block] at this | exact this) GW405.out)) | (show (Addr.add _ _).block ≠ _; rw [add_block]; exact Nat.ne_of_lt (Nat.lt_of_lt_of_le (by have := World.block_lt_of_cell? _ _ hw404_2; first | rwa [add_block] at this | exact this) GW405.out)) | (dsimp only; exact Nat.ne_of_lt (Nat.lt_of_lt_of_le (by have := World.block_lt_of_cell? _ _ hw404_2; first | rwa [add_block] at this | exact this) GW405.out))) _).trans (((cell_far (p := ⟨gb405, _, none⟩) (by first | exact Nat.ne_of_lt (Nat.lt_of_lt_of_le (by have := World.block_lt_of_cell? _ _ hw404_2; first | rwa [add_block] at this | exact this) GW405.out) | (rw [add_block]; exact Nat.ne_of_lt (Nat.lt_of_lt_of_le (by have := World.block_lt_of_cell? _ _ hw404_2; first | rwa [add_block] at this | exact this) GW405.out)) | (show (Addr.add _ _).block ≠ _; rw [add_block]; exact Nat.ne_of_lt (Nat.lt_of_lt_of_le (by have := World.block_lt_of_cell? _ _ hw404_2; first | rwa [add_block] at this | exact this) GW405.out)) | (dsimp only; exact Nat.ne_of_lt (Nat.lt_of_lt_of_le (by have := World.block_lt_of_cell? _ _ hw404_2; first | rwa [add_block] at this | exact this) GW405.out))) _).trans (((cell_far (p := ⟨gb405, _, none⟩) (by first | exact Nat.ne_of_lt (Nat.lt_of_lt_of_le (by have := World.block_lt_of_cell? _ _ hw404_2; first | rwa [add_block] at this | exact this) GW405.out) | (rw [add_block]; exact Nat.ne_of_lt (Nat.lt_of_lt_of_le (by have := World.block_lt_of_cell? _ _ hw404_2; first | rwa [add_block] at this | exact this) GW405.out)) | (show (Addr.add _ _).block ≠ _; rw [add_block]; exact Nat.ne_of_lt (Nat.lt_of_lt_of_le (by have := World.block_lt_of_cell? _ _ hw404_2; first | rwa [add_block] at this | exact this) GW405.out)) | (dsimp only; exact Nat.ne_of_lt (Nat.lt_of_lt_of_le (by have := World.block_lt_of_cell? _ _ hw404_2; first | rwa [add_block] at this | exact this) GW405.out))) _).trans (((cell_far (p := ⟨gb405, _, none⟩) (by first | exact Nat.ne_of_lt (Nat.lt_of_lt_of_le (by have := World.block_lt_of_cell? _ _ hw404_2; first | rwa [add_block] at this | exact this) GW405.out) | (rw [add_block]; exact Nat.ne_of_lt (Nat.lt_of_lt_of_le (by have := World.block_lt_of_cell? _ _ hw404_2; first | rwa [add_block] at this | exact this) GW405.out)) | (show (Addr.add _ _).block ≠ _; rw [add_block]; exact Nat.ne_of_lt (Nat.lt_of_lt_of_le (by have := World.block_lt_of_cell? _ _ hw404_2; first | rwa [add_block] at this | exact this) GW405.out)) | (dsimp only; exact Nat.ne_of_lt (Nat.lt_of_lt_of_le (by have := World.block_lt_of_cell? _ _ hw404_2; first | rwa [add_block] at this | exact this) GW405.out))) _).trans (hHeld.2.2.2.2.2.2.2.2.2.2.2.2.1)))))))))))))), ((cell_far (p := ⟨gb405, _, none⟩) (by first | exact Nat.ne_of_lt (Nat.lt_of_lt_of_le (by have := World.block_lt_of_cell? _ _ hw404_3; first | rwa [add_block] at this | exact this) GW405.out) | (rw [add_block]; exact Nat.ne_of_lt (Nat.lt_of_lt_of_le (by have := World.block_lt_of_cell? _ _ hw404_3; first | rwa [add_block] at this | exact this) GW405.out)) | (show (Addr.add _ _).block ≠ _; rw [add_block]; exact Nat.ne_of_lt (Nat.lt_of_lt_of_le (by have := World.block_lt_of_cell? _ _ hw404_3; first | rwa [add_block] at this | exact this) GW405.out)) | (dsimp only; exact Nat.ne_of_lt (Nat.lt_of_lt_of_le (by have := World.block_lt_of_cell? _ _ hw404_3; first | rwa [add_block] at this | exact this) GW405.out))) _).trans (((cell_far (p := ⟨gb405, _, none⟩) (by first | exact Nat.ne_of_lt (Nat.lt_of_lt_of_le (by have := World.block_lt_of_cell? _ _ hw404_3; first | rwa [add_block] at this | exact this) GW405.out) | (rw [add_block]; exact Nat.ne_of_lt (Nat.lt_of_lt_of_le (by have := World.block_lt_of_cell? _ _ hw404_3; first | rwa [add_block] at this | exact this) GW405.out)) | (show (Addr.add _ _).block ≠ _; rw [add_block]; exact Nat.ne_of_lt (Nat.lt_of_lt_of_le (by have := World.block_lt_of_cell? _ _ hw404_3; first | rwa [add_block] at this | exact this) GW405.out)) | (dsimp only; exact Nat.ne_of_lt (Nat.lt_of_lt_of_le (by have := World.block_lt_of_cell? _ _ hw404_3; first | rwa [add_block] at this | exact this) GW405.out))) _).trans (((cell_far (p := ⟨gb405, _, none⟩) (by first | exact Nat.ne_of_lt (Nat.lt_of_lt_of_le (by have := World.block_lt_of_cell? _ _ hw404_3; first | rwa [add_block] at this | exact this) GW405.out) | (rw [add_block]; exact Nat.ne_of_lt (Nat.lt_of_lt_of_le (by have := World.block_lt_of_cell? _ _ hw404_3; first | rwa [add_block] at this | exact this) GW405.out)) | (show (Addr.add _ _).block ≠ _; rw [add_block]; exact Nat.ne_of_lt (Nat.lt_of_lt_of_le (by have := World.block_lt_of_cell? _ _ hw404_3; first | rwa [add_block] at this | exact this) GW405.out)) | (dsimp only; exact Nat.ne_of_lt (Nat.lt_of_lt_of_le (by have := World.block_lt_of_cell? _ _ hw404_3; first | rwa [add_block] at this | exact this) GW405.out))) _).trans (((cell_far (p := ⟨gb405, _, none⟩) (by first | exact Nat.ne_of_lt (Nat.lt_of_lt_of_le (by have := World.block_lt_of_cell? _ _ hw404_3; first | rwa [add_block] at this | exact this) GW405.out) | (rw [add_block]; exact Nat.ne_of_lt (Nat.lt_of_lt_of_le (by have := World.block_lt_of_cell? _ _ hw404_3; first | rwa [add_block] at this | exact this) GW405.out)) | (show (Addr.add _ _).block ≠ _; rw [add_block]; exact Nat.ne_of_lt (Nat.lt_of_lt_of_le (by have := World.block_lt_of_cell? _ _ hw404_3; first | rwa [add_block] at this | exact this) GW405.out)) | (dsimp only; exact Nat.ne_of_lt (Nat.lt_of_lt_of_le (by have := World.block_lt_of_cell? _ _ hw404_3; first | rwa [add_block] at this | exact this) GW405.out))) _).trans (((cell_far (p := ⟨gb405, _, none⟩) (by first | exact Nat.ne_of_lt (Nat.lt_of_lt_of_le (by have := World.block_lt_of_cell? _ _ hw404_3; first | rwa [add_block] at this | exact this) GW405.out) | (rw [add_block]; exact Nat.ne_of_lt (Nat.lt_of_lt_of_le (by have := World.block_lt_of_cell? _ _ hw404_3; first | rwa [add_block] at this | exact this) GW405.out)) | (show (Addr.add _ _).block ≠ _; rw [add_block]; exact Nat.ne_of_lt (Nat.lt_of_lt_of_le (by have := World.block_lt_of_cell? _ _ hw404_3; first | rwa [add_block] at this | exact this) GW405.out)) | (dsimp only; exact Nat.ne_of_lt (Nat.lt_of_lt_of_le (by have := World.block_lt_of_cell? _ _ hw404_3; first | rwa [add_block] at this | exact this) GW405.out))) _).trans (((cell_far (p := ⟨gb405, _, none⟩) (by first | exact Nat.ne_of_lt (Nat.lt_of_lt_of_le (by have := World.block_lt_of_cell? _ _ hw404_3; first | rwa [add_block] at this | exact this) GW405.out) | (rw [add_block]; exact Nat.ne_of_lt (Nat.lt_of_lt_of_le (by have := World.block_lt_of_cell? _ _ hw404_3; first | rwa [add_block] at this | exact this) GW405.out)) | (show (Addr.add _ _).block ≠ _; rw [add_block]; exact Nat.ne_of_lt (Nat.lt_of_lt_of_le (by have := World.block_lt_of_cell? _ _ hw404_3; first | rwa [add_block] at this | exact this) GW405.out)) | (dsimp only; exact Nat.ne_of_lt (Nat.lt_of_lt_of_le (by have := World.block_lt_of_cell? _ _ hw404_3; first | rwa [add_block] at this | exact this) GW405.out))) _).trans (((cell_far (p := ⟨gb405, _, none⟩) (by first | exact Nat.ne_of_lt (Nat.lt_of_lt_of_le (by have := World.block_lt_of_cell? _ _ hw404_3; first | rwa [add_block] at this | exact this) GW405.out) | (rw [add_block]; exact Nat.ne_of_lt (Nat.lt_of_lt_of_le (by have := World.block_lt_of_cell? _ _ hw404_3; first | rwa [add_block] at this | exact this) GW405.out)) | (show (Addr.add _ _).block ≠ _; rw [add_block]; exact Nat.ne_of_lt (Nat.lt_of_lt_of_le (by have := World.block_lt_of_cell? _ _ hw404_3; first | rwa [add_block] at this | exact this) GW405.out)) | (dsimp only; exact Nat.ne_of_lt (Nat.lt_of_lt_of_le (by have := World.block_lt_of_cell? _ _ hw404_3; first | rwa [add_block] at this | exact this) GW405.out))) _).trans (hHeld.2.2.2.2.2.2.2.2.2.2.2.2.2.1)))))))))))))), ((cell_far (p := ⟨gb405, _, none⟩) (by first | exact Nat.ne_of_lt (Nat.lt_of_lt_of_le (by have := World.block_lt_of_cell? _ _ hw404_4; first | rwa [add_block] at this | exact this) GW405.out) | (rw [add_block]; exact Nat.ne_of_lt (Nat.lt_of_lt_of_le (by have := World.block_lt_of_cell? _ _ hw404_4; first | rwa [add_block] at this | exact this) GW405.out)) | (show (Addr.add _ _).block ≠ _; rw [add_block]; exact Nat.ne_of_lt (Nat.lt_of_lt_of_le (by have := World.block_lt_of_cell? _ _ hw404_4; first | rwa [add_block] at this | exact this) GW405.out)) | (dsimp only; exact Nat.ne_of_lt (Nat.lt_of_lt_of_le (by have := World.block_lt_of_cell? _ _ hw404_4; first | rwa [add_block] at this | exact this) GW405.out))) _).trans (((cell_far (p := ⟨gb405, _, none⟩) (by first | exact Nat.ne_of_lt (Nat.lt_of_lt_of_le (by have := World.block_lt_of_cell? _ _ hw404_4; first | rwa [add_block] at this | exact this) GW405.out) | (rw [add_block]; exact Nat.ne_of_lt (Nat.lt_of_lt_of_le (by have := World.block_lt_of_cell? _ _ hw404_4; first | rwa [add_block] at this | exact this) GW405.out)) | (show (Addr.add _ _).block ≠ _; rw [add_block]; exact Nat.ne_of_lt (Nat.lt_of_lt_of_le (by have := World.block_lt_of_cell? _ _ hw404_4; first | rwa [add_block] at this | exact this) GW405.out)) | (dsimp only; exact Nat.ne_of_lt (Nat.lt_of_lt_of_le (by have := World.block_lt_of_cell? _ _ hw404_4; first | rwa [add_block] at this | exact this) GW405.out))) _).trans (((cell_far (p := ⟨gb405, _, none⟩) (by first | exact Nat.ne_of_lt (Nat.lt_of_lt_of_le (by have := World.block_lt_of_cell? _ _ hw404_4; first | rwa [add_block] at this | exact this) GW405.out) | (rw [add_block]; exact Nat.ne_of_lt (Nat.lt_of_lt_of_le (by have := World.block_lt_of_cell? _ _ hw404_4; first | rwa [add_block] at this | exact this) GW405.out)) | (show (Addr.add _ _).block ≠ _; rw [add_block]; exact Nat.ne_of_lt (Nat.lt_of_lt_of_le (by have := World.block_lt_of_cell? _ _ hw404_4; first | rwa [add_block] at this | exact this) GW405.out)) | (dsimp only; exact Nat.ne_of_lt (Nat.lt_of_lt_of_le (by have := World.block_lt_of_cell? _ _ hw404_4; first | rwa [add_block] at this | exact this) GW405.out))) _).trans (((cell_far (p := ⟨gb405, _, none⟩) (by first | exact Nat.ne_of_lt (Nat.lt_of_lt_of_le (by have := World.block_lt_of_cell? _ _ hw404_4; first | rwa [add_block] at this | exact this) GW405.out) | (rw [add_block]; exact Nat.ne_of_lt (Nat.lt_of_lt_of_le (by have := World.block_lt_of_cell? _ _ hw404_4; first | rwa [add_block] at this | exact this) GW405.out)) | (show (Addr.add _ _).block ≠ _; rw [add_block]; exact Nat.ne_of_lt (Nat.lt_of_lt_of_le (by have := World.block_lt_of_cell? _ _ hw404_4; first | rwa [add_block] at this | exact this) GW405.out)) | (dsimp only; exact Nat.ne_of_lt (Nat.lt_of_lt_of_le (by have := World.block_lt_of_cell? _ _ hw404_4; first | rwa [add_block] at this | exact this) GW405.out))) _).trans (((cell_far (p := ⟨gb405, _, none⟩) (by first | exact Nat.ne_of_lt (Nat.lt_of_lt_of_le (by have := World.block_lt_of_cell? _ _ hw404_4; first | rwa [add_block] at this | exact this) GW405.out) | (rw [add_block]; exact Nat.ne_of_lt (Nat.lt_of_lt_of_le (by have := World.block_lt_of_cell? _ _ hw404_4; first | rwa [add_block] at this | exact this) GW405.out)) | (show (Addr.add _ _).block ≠ _; rw [add_block]; exact Nat.ne_of_lt (Nat.lt_of_lt_of_le (by have := World.block_lt_of_cell? _ _ hw404_4; first | rwa [add_block] at this | exact this) GW405.out)) | (dsimp only; exact Nat.ne_of_lt (Nat.lt_of_lt_of_le (by have := World.block_lt_of_cell? _ _ hw404_4; first | rwa [add_block] at this | exact this) GW405.out))) _).trans (((cell_far (p := ⟨gb405, _, none⟩) (by first | exact Nat.ne_of_lt (Nat.lt_of_lt_of_le (by have := World.block_lt_of_cell? _ _ hw404_4; first | rwa [add_block] at this | exact this) GW405.out) | (rw [add_block]; exact Nat.ne_of_lt (Nat.lt_of_lt_of_le (by have := World.block_lt_of_cell? _ _ hw404_4; first | rwa [add_block] at this | exact this) GW405.out)) | (show (Addr.add _ _).block ≠ _; rw [add_block]; exact Nat.ne_of_lt (Nat.lt_of_lt_of_le (by have := World.block_lt_of_cell? _ _ hw404_4; first | rwa [add_block] at this | exact this) GW405.out)) | (dsimp only; exact Nat.ne_of_lt (Nat.lt_of_lt_of_le (by have := World.block_lt_of_cell? _ _ hw404_4; first | rwa [add_block] at this | exact this) GW405.out))) _).trans (((cell_far (p := ⟨gb405, _, none⟩) (by first | exact Nat.ne_of_lt (Nat.lt_of_lt_of_le (by have := World.block_lt_of_cell? _ _ hw404_4; first | rwa [add_block] at this | exact this) GW405.out) | (rw [add_block]; exact Nat.ne_of_lt (Nat.lt_of_lt_of_le (by have := World.block_lt_of_cell? _ _ hw404_4; first | rwa [add_block] at this | exact this) GW405.out)) | (show (Addr.add _ _).block ≠ _; rw [add_block]; exact Nat.ne_of_lt (Nat.lt_of_lt_of_le (by have := World.block_lt_of_cell? _ _ hw404_4; first | rwa [add_block] at this | exact this) GW405.out)) | (dsimp only; exact Nat.ne_of_lt (Nat.lt_of_lt_of_le (by have := World.block_lt_of_cell? _ _ hw404_4; first | rwa [add_block] at this | exact this) GW405.out))) _).trans (hHeld.2.2.2.2.2.2.2.2.2.2.2.2.2.2.1)))))))))))))), ((cell_far (p := ⟨gb405, _, none⟩) (by first | exact Nat.ne_of_lt (Nat.lt_of_lt_of_le (by have := World.block_lt_of_cell? _ _ hw404_5; first | rwa [add_block] at this | exact this) GW405.out) | (rw [add_block]; exact Nat.ne_of_lt (Nat.lt_of_lt_of_le (by have := World.block_lt_of_cell? _ _ hw404_5; first | rwa [add_block] at this | exact this) GW405.out)) | (show (Addr.add _ _).block ≠ _; rw [add_block]; exact Nat.ne_of_lt (Nat.lt_of_lt_of_le (by have := World.block_lt_of_cell? _ _ hw404_5; first | rwa [add_block] at this | exact this) GW405.out)) | (dsimp only; exact Nat.ne_of_lt (Nat.lt_of_lt_of_le (by have := World.block_lt_of_cell? _ _ hw404_5; first | rwa [add_block] at this | exact this) GW405.out))) _).trans (((cell_far (p := ⟨gb405, _, none⟩) (by first | exact Nat.ne_of_lt (Nat.lt_of_lt_of_le (by have := World.block_lt_of_cell? _ _ hw404_5; first | rwa [add_block] at this | exact this) GW405.out) | (rw [add_block]; exact Nat.ne_of_lt (Nat.lt_of_lt_of_le (by have := World.block_lt_of_cell? _ _ hw404_5; first | rwa [add_block] at this | exact this) GW405.out)) | (show (Addr.add _ _).block ≠ _; rw [add_block]; exact Nat.ne_of_lt (Nat.lt_of_lt_of_le (by have := World.block_lt_of_cell? _ _ hw404_5; first | rwa [add_block] at this | exact this) GW405.out)) | (dsimp only; exact Nat.ne_of_lt (Nat.lt_of_lt_of_le (by have := World.block_lt_of_cell? _ _ hw404_5; first | rwa [add_block] at this | exact this) GW405.out))) _).trans (((cell_far (p := ⟨gb405, _, none⟩) (by first | exact Nat.ne_of_lt (Nat.lt_of_lt_of_le (by have := World.block_lt_of_cell? _ _ hw404_5; first | rwa [add_block] at this | exact this) GW405.out) | (rw [add_block]; exact Nat.ne_of_lt (Nat.lt_of_lt_of_le (by have := World.block_lt_of_cell? _ _ hw404_5; first | rwa [add_block] at this | exact this) GW405.out)) | (show (Addr.add _ _).block ≠ _; rw [add_block]; exact Nat.ne_of_lt (Nat.lt_of_lt_of_le (by have := World.block_lt_of_cell? _ _ hw404_5; first | rwa [add_block] at this | exact this) GW405.out)) | (dsimp only; exact Nat.ne_of_lt (Nat.lt_of_lt_of_le (by have := World.block_lt_of_cell? _ _ hw404_5; first | rwa [add_block] at this | exact this) GW405.out))) _).trans (((cell_far (p := ⟨gb405, _, none⟩) (by first | exact Nat.ne_of_lt (Nat.lt_of_lt_of_le (by have := World.block_lt_of_cell? _ _ hw404_5; first | rwa [add_block] at this | exact this) GW405.out) | (rw [add_block]; exact Nat.ne_of_lt (Nat.lt_of_lt_of_le (by have := World.block_lt_of_cell? _ _ hw404_5; first | rwa [add_block] at this | exact this) GW405.out)) | (show (Addr.add _ _).block ≠ _; rw [add_block]; exact Nat.ne_of_lt (Nat.lt_of_lt_of_le (by have := World.block_lt_of_cell? _ _ hw404_5; first | rwa [add_block] at this | exact this) GW405.out)) | (dsimp only; exact Nat.ne_of_lt (Nat.lt_of_lt_of_le (by have := World.block_lt_of_cell? _ _ hw404_5; first | rwa [add_block] at this | exact this) GW405.out))) _).trans (((cell_far (p := ⟨gb405, _, none⟩) (by first | exact Nat.ne_of_lt (Nat.lt_of_lt_of_le (by have := World.block_lt_of_cell? _ _ hw404_5; first | rwa [add_block] at this | exact this) GW405.out) | (rw [add_block]; exact Nat.ne_of_lt (Nat.lt_of_lt_of_le (by have := World.block_lt_of_cell? _ _ hw404_5; first | rwa [add_block] at this | exact this) GW405.out)) | (show (Addr.add _ _).block ≠ _; rw [add_block]; exact Nat.ne_of_lt (Nat.lt_of_lt_of_le (by have := World.block_lt_of_cell? _ _ hw404_5; first | rwa [add_block] at this | exact this) GW405.out)) | (dsimp only; exact Nat.ne_of_lt (Nat.lt_of_lt_of_le (by have := World.block_lt_of_cell? _ _ hw404_5; first | rwa [add_block] at this | exact this) GW405.out))) _).trans (((cell_far (p := ⟨gb405, _, none⟩) (by first | exact Nat.ne_of_lt (Nat.lt_of_lt_of_le (by have := World.block_lt_of_cell? _ _ hw404_5; first | rwa [add_block] at this | exact this) GW405.out) | (rw [add_block]; exact Nat.ne_of_lt (Nat.lt_of_lt_of_le (by have := World.block_lt_of_cell? _ _ hw404_5; first | rwa [add_block] at this | exact this) GW405.out)) | (show (Addr.add _ _).block ≠ _; rw [add_block]; exact Nat.ne_of_lt (Nat.lt_of_lt_of_le (by have := World.block_lt_of_cell? _ _ hw404_5; first | rwa [add_block] at this | exact this) GW405.out)) | (dsimp only; exact Nat.ne_of_lt (Nat.lt_of_lt_of_le (by have := World.block_lt_of_cell? _ _ hw404_5; first | rwa [add_block] at this | exact this) GW405.out))) _).trans (((cell_far (p := ⟨gb405, _, none⟩) (by first | exact Nat.ne_of_lt (Nat.lt_of_lt_of_le (by have := World.block_lt_of_cell? _ _ hw404_5; first | rwa [add_block] at this | exact this) GW405.out) | (rw [add_block]; exact Nat.ne_of_lt (Nat.lt_of_lt_of_le (by have := World.block_lt_of_cell? _ _ hw404_5; first | rwa [add_block] at this | exact this) GW405.out)) | (show (Addr.add _ _).block ≠ _; rw [add_block]; exact Nat.ne_of_lt (Nat.lt_of_lt_of_le (by have := World.block_lt_of_cell? _ _ hw404_5; first | rwa [add_block] at this | exact this) GW405.out)) | (dsimp only; exact Nat.ne_of_lt (Nat.lt_of_lt_of_le (by have := World.block_lt_of_cell? _ _ hw404_5; first | rwa [add_block] at this | exact this) GW405.out))) _).trans (hHeld.2.2.2.2.2.2.2.2.2.2.2.2.2.2.2.1)))))))))))))), ((cell_far (p := ⟨gb405, _, none⟩) (by first | exact Nat.ne_of_lt (Nat.lt_of_lt_of_le (by have := World.block_lt_of_cell? _ _ hw404_6; first | rwa [add_block] at this | exact this) GW405.out) | (rw [add_block]; exact Nat.ne_of_lt (Nat.lt_of_lt_of_le (by have := World.block_lt_of_cell? _ _ hw404_6; first | rwa [add_block] at this | exact this) GW405.out)) | (show (Addr.add _ _).block ≠ _; rw [add_block]; exact Nat.ne_of_lt (Nat.lt_of_lt_of_le (by have := World.block_lt_of_cell? _ _ hw404_6; first | rwa [add_block] at this | exact this) GW405.out)) | (dsimp only; exact Nat.ne_of_lt (Nat.lt_of_lt_of_le (by have := World.block_lt_of_cell? _ _ hw404_6; first | rwa [add_block] at this | exact this) GW405.out))) _).trans (((cell_far (p := ⟨gb405, _, none⟩) (by first | exact Nat.ne_of_lt (Nat.lt_of_lt_of_le (by have := World.block_lt_of_cell? _ _ hw404_6; first | rwa [add_block] at this | exact this) GW405.out) | (rw [add_block]; exact Nat.ne_of_lt (Nat.lt_of_lt_of_le (by have := World.block_lt_of_cell? _ _ hw404_6; first | rwa [add_block] at this | exact this) GW405.out)) | (show (Addr.add _ _).block ≠ _; rw [add_block]; exact Nat.ne_of_lt (Nat.lt_of_lt_of_le (by have := World.block_lt_of_cell? _ _ hw404_6; first | rwa [add_block] at this | exact this) GW405.out)) | (dsimp only; exact Nat.ne_of_lt (Nat.lt_of_lt_of_le (by have := World.block_lt_of_cell? _ _ hw404_6; first | rwa [add_block] at this | exact this) GW405.out))) _).trans (((cell_far (p := ⟨gb405, _, none⟩) (by first | exact Nat.ne_of_lt (Nat.lt_of_lt_of_le (by have := World.block_lt_of_cell? _ _ hw404_6; first | rwa [add_block] at this | exact this) GW405.out) | (rw [add_block]; exact Nat.ne_of_lt (Nat.lt_of_lt_of_le (by have := World.block_lt_of_cell? _ _ hw404_6; first | rwa [add_block] at this | exact this) GW405.out)) | (show (Addr.add _ _).block ≠ _; rw [add_block]; exact Nat.ne_of_lt (Nat.lt_of_lt_of_le (by have := World.block_lt_of_cell? _ _ hw404_6; first | rwa [add_block] at this | exact this) GW405.out)) | (dsimp only; exact Nat.ne_of_lt (Nat.lt_of_lt_of_le (by have := World.block_lt_of_cell? _ _ hw404_6; first | rwa [add_block] at this | exact this) GW405.out))) _).trans (((cell_far (p := ⟨gb405, _, none⟩) (by first | exact Nat.ne_of_lt (Nat.lt_of_lt_of_le (by have := World.block_lt_of_cell? _ _ hw404_6; first | rwa [add_block] at this | exact this) GW405.out) | (rw [add_block]; exact Nat.ne_of_lt (Nat.lt_of_lt_of_le (by have := World.block_lt_of_cell? _ _ hw404_6; first | rwa [add_block] at this | exact this) GW405.out)) | (show (Addr.add _ _).block ≠ _; rw [add_block]; exact Nat.ne_of_lt (Nat.lt_of_lt_of_le (by have := World.block_lt_of_cell? _ _ hw404_6; first | rwa [add_block] at this | exact this) GW405.out)) | (dsimp only; exact Nat.ne_of_lt (Nat.lt_of_lt_of_le (by have := World.block_lt_of_cell? _ _ hw404_6; first | rwa [add_block] at this | exact this) GW405.out))) _).trans (((cell_far (p := ⟨gb405, _, none⟩) (by first | exact Nat.ne_of_lt (Nat.lt_of_lt_of_le (by have := World.block_lt_of_cell? _ _ hw404_6; first | rwa [add_block] at this | exact this) GW405.out) | (rw [add_block]; exact Nat.ne_of_lt (Nat.lt_of_lt_of_le (by have := World.block_lt_of_cell? _ _ hw404_6; first | rwa [add_block] at this | exact this) GW405.out)) | (show (Addr.add _ _).block ≠ _; rw [add_block]; exact Nat.ne_of_lt (Nat.lt_of_lt_of_le (by have := World.block_lt_of_cell? _ _ hw404_6; first | rwa [add_block] at this | exact this) GW405.out)) | (dsimp only; exact Nat.ne_of_lt (Nat.lt_of_lt_of_le (by have := World.block_lt_of_cell? _ _ hw404_6; first | rwa [add_block] at this | exact this) GW405.out))) _).trans (((cell_far (p := ⟨gb405, _, none⟩) (by first | exact Nat.ne_of_lt (Nat.lt_of_lt_of_le (by have := World.block_lt_of_cell? _ _ hw404_6; first | rwa [add_block] at this | exact this) GW405.out) | (rw [add_block]; exact Nat.ne_of_lt (Nat.lt_of_lt_of_le (by have := World.block_lt_of_cell? _ _ hw404_6; first | rwa [add_block] at this | exact this) GW405.out)) | (show (Addr.add _ _).block ≠ _; rw [add_block]; exact Nat.ne_of_lt (Nat.lt_of_lt_of_le (by have := World.block_lt_of_cell? _ _ hw404_6; first | rwa [add_block] at this | exact this) GW405.out)) | (dsimp only; exact Nat.ne_of_lt (Nat.lt_of_lt_of_le (by have := World.block_lt_of_cell? _ _ hw404_6; first | rwa [add_block] at this | exact this) GW405.out))) _).trans (((cell_far (p := ⟨gb405, _, none⟩) (by first | exact Nat.ne_of_lt (Nat.lt_of_lt_of_le (by have := World.block_lt_of_cell? _ _ hw404_6; first | rwa [add_block] at this | exact this) GW405.out) | (rw [add_block]; exact Nat.ne_of_lt (Nat.lt_of_lt_of_le (by have := World.block_lt_of_cell? _ _ hw404_6; first | rwa [add_block] at this | exact this) GW405.out)) | (show (Addr.add _ _).block ≠ _; rw [add_block]; exact Nat.ne_of_lt (Nat.lt_of_lt_of_le (by have := World.block_lt_of_cell? _ _ hw404_6; first | rwa [add_block] at this | exact this) GW405.out)) | (dsimp only; exact Nat.ne_of_lt (Nat.lt_of_lt_of_le (by have := World.block_lt_of_cell? _ _ hw404_6; first | rwa [add_block] at this | exact this) GW405.out))) _).trans (hHeld.2.2.2.2.2.2.2.2.2.2.2.2.2.2.2.2))))))))))))))⟩ (fun hHeld => ?_)
         clear hK K
         refine done_ (done_of HT_.out (by kernel_rfl)) ?_
         try go_wp2
         go_loopg [11] kj7 (fun kq v11 w' => ∃ (x11_2 : Int), v11 = .int .i64 x11_2 ∧ Aside0 (fanlightlaw10_DomBack.l0 kq a1 a2 a3 x11_2 l0_0 a0_1 a0_2 ((rd_T64 l0_0 t403).f0) ((rd_T64 l0_0 t403).f1) ((rd_T64 l0_0 t403).f2) ((rd_T64 l0_0 t403).f3) ((rd_T64 l0_0 t403).f4) ((rd_T64 l0_0 t403).f5) ((rd_T64 l0_0 t403).f6) = some r) ∧ Aside0 (kq ≤ kj7) ∧ Aside0 (w'.heap[gb397]? = some (.cells #[(.slice (some ad402) l0_0.length c0_0), .int .i64 a0_1, .int .i64 a0_2] 24 (0, 0))) ∧ Aside0 (w'.heap[gb405]? = some (.cells #[.int .i64 ((rd_T64 l0_0 t403).f0), .int .i64 ((rd_T64 l0_0 t403).f1), .string ((rd_T64 l0_0 t403).f2), .string ((rd_T64 l0_0 t403).f3), .string ((rd_T64 l0_0 t403).f4), (.slice A404_5 ((rd_T64 l0_0 t403).f5).length c404_5), (.slice A404_6 ((rd_T64 l0_0 t403).f6).length c404_6)] 64 (0, 0))) ∧ Aside0 (Below w.heap.size w w'))
         case atStart => exact ⟨(0), (by first | rfl | (simp; done) | (simp [*]; done)), H', ⟨Nat.le_refl _⟩, ⟨by refine eK ?_; refine blk_far ?_ NB397_405.out _; refine eK ?_; refine blk_far ?_ NB397_405.out _; refine eK ?_; refine blk_far ?_ NB397_405.out _; refine eK ?_; refine blk_far ?_ NB397_405.out _; refine eK ?_; refine blk_far ?_ NB397_405.out _; refine eK ?_; refine blk_far ?_ NB397_405.out _; refine eK ?_; refine blk_far ?_ NB397_405.out _; refine eK ?_; exact BK397.out⟩, ⟨by refine eK ?_; refine blk_put (cs := #[.int .i64 ((rd_T64 l0_0 t403).f0), .int .i64 ((rd_T64 l0_0 t403).f1), .string ((rd_T64 l0_0 t403).f2), .string ((rd_T64 l0_0 t403).f3), .string ((rd_T64 l0_0 t403).f4), .slice A404_5 ((rd_T64 l0_0 t403).f5).length c404_5, .slice none 0 0]) ?_ 6 _ rfl; refine eK ?_; refine blk_put (cs := #[.int .i64 ((rd_T64 l0_0 t403).f0), .int .i64 ((rd_T64 l0_0 t403).f1), .string ((rd_T64 l0_0 t403).f2), .string ((rd_T64 l0_0 t403).f3), .string ((rd_T64 l0_0 t403).f4), .slice none 0 0, .slice none 0 0]) ?_ 5 _ rfl; refine eK ?_; refine blk_put (cs := #[.int .i64 ((rd_T64 l0_0 t403).f0), .int .i64 ((rd_T64 l0_0 t403).f1), .string ((rd_T64 l0_0 t403).f2), .string ((rd_T64 l0_0 t403).f3), .string (⟨#[]⟩ : ByteArray), .slice none 0 0, .slice none 0 0]) ?_ 4 _ rfl; refine eK ?_; refine blk_put (cs := #[.int .i64 ((rd_T64 l0_0 t403).f0), .int .i64 ((rd_T64 l0_0 t403).f1), .string ((rd_T64 l0_0 t403).f2), .string (⟨#[]⟩ : ByteArray), .string (⟨#[]⟩ : ByteArray), .slice none 0 0, .slice none 0 0]) ?_ 3 _ rfl; refine eK ?_; refine blk_put (cs := #[.int .i64 ((rd_T64 l0_0 t403).f0), .int .i64 ((rd_T64 l0_0 t403).f1), .string (⟨#[]⟩ : ByteArray), .string (⟨#[]⟩ : ByteArray), .string (⟨#[]⟩ : ByteArray), .slice none 0 0, .slice none 0 0]) ?_ 2 _ rfl; refine eK ?_; refine blk_put (cs := #[.int .i64 ((rd_T64 l0_0 t403).f0), .int .i64 0, .string (⟨#[]⟩ : ByteArray), .string (⟨#[]⟩ : ByteArray), .string (⟨#[]⟩ : ByteArray), .slice none 0 0, .slice none 0 0]) ?_ 1 _ rfl; refine eK ?_; refine blk_put (cs := #[.int .i64 0, .int .i64 0, .string (⟨#[]⟩ : ByteArray), .string (⟨#[]⟩ : ByteArray), .string (⟨#[]⟩ : ByteArray), .slice none 0 0, .slice none 0 0]) ?_ 0 _ rfl; refine eK ?_; exact BK405.out⟩, ⟨eH HB⟩⟩
         case round =>
          clear H'
          try clear c1
          try clear c2
          try clear p2
          try clear c3
          try clear c4
          try clear p4
          try clear q4
          try clear hx4
          try clear c6
          try clear c14
          try clear c14b0
          try clear c14b1
          try clear c15
          try clear c15b0
          try clear c17
          try clear c18
          try clear c18b0
          try clear c19
          try clear c19b0
          try clear c24
          try clear c25
          try clear c26
          try clear c26b0
          try clear c27
          try clear c27b0
          try clear c29
          try clear c29b0
          try clear c30
          try clear c30b0
          try clear c40
          try clear p40
          try clear q40
          try clear hx40
          try clear hcz11_0
          try clear hcz11_1
          try clear hcz11_2
          try clear hcz16_0
          try clear hcz16_1
          try clear hcz16_2
          try clear hcz20_0
          try clear hcz20_1
          try clear hcz20_2
          try clear hcz22_0
          try clear hcz22_1
          try clear hcz22_2
          try clear hcz23_0
          try clear hcz23_1
          try clear hcz23_2
          try clear hfz11_0
          try clear hfz11_1
          try clear hfz11_2
          try clear hfz16_0
          try clear hfz16_1
          try clear hfz16_2
          try clear hfz20_0
          try clear hfz20_1
          try clear hfz20_2
          try clear hfz22_0
          try clear hfz22_1
          try clear hfz22_2
          try clear hfz23_0
          try clear hfz23_1
          try clear hfz23_2
          try clear hx401_0
          try clear hx401_1
          try clear hx401_2
          try clear hx401_3
          try clear hx401_4
          try clear hx401_5
          try clear hx401_6
          try clear hx402_0
          try clear hx402_1
          try clear hx402_2
          try clear hx402_3
          try clear hx402_4
          try clear hx402_5
          try clear hx402_6
          try clear hx404_0
          try clear hx404_1
          try clear hx404_2
          try clear hx404_3
          try clear hx404_4
          try clear hx404_5
          try clear hx404_6
          try clear p2
          try clear p4
          try clear p401
          try clear p402
          try clear p404
          try clear q4
          try clear q401
          try clear q402
          try clear q404
          obtain ⟨x11_2, rfl, HA, HK2, BK397, BK405, HB⟩ := hrel
          cases gk with
          | zero => exact absurd HA.out (by simp [fanlightlaw10_DomBack.l0])
          | succ k2 =>
           have H := HA.out
           clear HA
           simp only [fanlightlaw10_DomBack.l0] at H
           by_cases c42 : 0 ≤ x11_2
           ·
            rw [if_pos c42] at H
            have c42b0 : decide (0 ≤ x11_2) = true := decide_eq_true c42
            clear c42
            by_cases c43 : x11_2 < (((rd_T64 l0_0 t403).f6).length : Int)
            ·
             rw [if_pos c43] at H
             have c43b0 : decide (x11_2 < (((rd_T64 l0_0 t403).f6).length : Int)) = true := decide_eq_true c43
             clear c43
             by_cases c44 : (rd ((rd_T64 l0_0 t403).f6) x11_2) = a1
             ·
              rw [if_pos c44] at H
              have c44b0 : ((rd ((rd_T64 l0_0 t403).f6) x11_2) == a1) = true := beq_iff_eq.mpr c44
              have c44b1 : ((rd ((rd_T64 l0_0 t403).f6) x11_2) != a1) = false := bne_eq_false_iff_eq.mpr c44
              clear c44
              replace H := Option.bind_eq_some_iff.mp H
              obtain ⟨⟨t407, t410, t411⟩, A450, H⟩ := H
              (try dsimp only at H)
              have A45 := p' A450
              clear A450
              replace H := Option.bind_eq_some_iff.mp H
              obtain ⟨⟨t412, t415, t416, t417⟩, A460, H⟩ := H
              (try dsimp only at H)
              have A46 := p' A460
              clear A460
              replace H := Option.bind_eq_some_iff.mp H
              obtain ⟨t419, A470, H⟩ := H
              (try dsimp only at H)
              have A47 := p' A470
              clear A470
              by_cases c48 : t419 = 0
              ·
               rw [if_pos c48] at H
               have c48b0 : (t419 == 0) = true := beq_iff_eq.mpr c48
               have c48b1 : (t419 != 0) = false := bne_eq_false_iff_eq.mpr c48
               clear c48
               replace H := Option.bind_eq_some_iff.mp H
               obtain ⟨⟨t420, t423, t424, t425⟩, A490, H⟩ := H
               (try dsimp only at H)
               have A49 := p' A490
               clear A490
               replace H := Option.bind_eq_some_iff.mp H
               obtain ⟨t427, A500, H⟩ := H
               (try dsimp only at H)
               have A50 := p' A500
               clear A500
               by_cases c51 : t427 = 0
               ·
                rw [if_pos c51] at H
                have c51b0 : (t427 == 0) = true := beq_iff_eq.mpr c51
                have c51b1 : (t427 != 0) = false := bne_eq_false_iff_eq.mpr c51
                clear c51
                replace H := Option.bind_eq_some_iff.mp H
                obtain ⟨t428, A520, H⟩ := H
                (try dsimp only at H)
                have A52 := p' A520
                clear A520
                obtain rfl := Option.some.inj H
                have hnb53 := NB405_397.out
                have hnc53 := NB397_405.out
                have hcz54_0 : wr.cell? ⟨gb405, 0, none⟩ = some (.int .i64 ((rd_T64 l0_0 t403).f0)) := (c' BK405.out 0).trans rfl
                have hcz54_1 : wr.cell? ⟨gb405, 1, none⟩ = some (.int .i64 ((rd_T64 l0_0 t403).f1)) := (c' BK405.out 1).trans rfl
                have hcz54_2 : wr.cell? ⟨gb405, 2, none⟩ = some (.string ((rd_T64 l0_0 t403).f2)) := (c' BK405.out 2).trans rfl
                have hcz54_3 : wr.cell? ⟨gb405, 3, none⟩ = some (.string ((rd_T64 l0_0 t403).f3)) := (c' BK405.out 3).trans rfl
                have hcz54_4 : wr.cell? ⟨gb405, 4, none⟩ = some (.string ((rd_T64 l0_0 t403).f4)) := (c' BK405.out 4).trans rfl
                have hcz54_5 : wr.cell? ⟨gb405, 5, none⟩ = some (.slice A404_5 ((rd_T64 l0_0 t403).f5).length c404_5) := (c' BK405.out 5).trans rfl
                have hcz54_6 : wr.cell? ⟨gb405, 6, none⟩ = some (.slice A404_6 ((rd_T64 l0_0 t403).f6).length c404_6) := (c' BK405.out 6).trans rfl
                have hfz54_0 := b' BK405.out 0
                have hfz54_1 := b' BK405.out 1
                have hfz54_2 := b' BK405.out 2
                have hfz54_3 := b' BK405.out 3
                have hfz54_4 := b' BK405.out 4
                have hfz54_5 := b' BK405.out 5
                have hfz54_6 := b' BK405.out 6
                have p406 : 0 ≤ (x11_2 : Int) := of_decide_eq_true (by first | (with_reducible assumption) | assumption)
                have q406 : x11_2 < (((rd_T64 l0_0 t403).f6).length : Int) := of_decide_eq_true (by first | (with_reducible assumption) | assumption)
                obtain ⟨ad406, e406, hx406_0⟩ := Kd.at_int HR404_6.out x11_2 p406 q406
                cases e406
                replace hx406_0 := (HB.out.cell (World.block_lt_of_cell? w _ hx406_0)).trans hx406_0
                replace p406 := eq_true p406
                replace q406 := eq_true q406
                have hcz55_0 : wr.cell? ⟨gb397, 0, none⟩ = some (.slice (some ad402) l0_0.length c0_0) := (c' BK397.out 0).trans rfl
                have hcz55_1 : wr.cell? ⟨gb397, 1, none⟩ = some (.int .i64 a0_1) := (c' BK397.out 1).trans rfl
                have hcz55_2 : wr.cell? ⟨gb397, 2, none⟩ = some (.int .i64 a0_2) := (c' BK397.out 2).trans rfl
                have hfz55_0 := b' BK397.out 0
                have hfz55_1 := b' BK397.out 1
                have hfz55_2 := b' BK397.out 2
                go_wp2_with (first | ((with_reducible refine gate_callee (f := 11) rfl ?_); refine goesL_ (some 60) rfl rfl Try.func11 (by kernel_rfl) rfl #[.agg #[.slice (some ad402) l0_0.length c0_0, .int .i64 a0_1, .int .i64 a0_2]] rfl (by (try simp only [k', l', m']); first | done | rfl | (simp only [n', o']; rfl)) ?_; (with_reducible refine (fanlightlaw10_Of.calls k2 _ _ l0_0 a0_1 a0_2 t407 t410 t411 _ ?side1 ?side2 A45.out).mono ?_); (case side1 => exact Kd.eC HR0_0 HB); (case side2 => exact HC0_0.out); rintro e w56 ⟨v408, rfl, ho0, hb⟩; refine ⟨_, rfl, ?_⟩; have n0_ := p' (Kd.S_lower ho0 (below_size (eH HB))); have n1_ := p' (d' (g := gb397) (o := .cells #[.slice (some ad402) l0_0.length c0_0, .int .i64 a0_1, .int .i64 a0_2] 24 (0, 0)) (eB BK397) hb); have n2_ := p' (d' (g := gb405) (o := .cells #[.int .i64 ((rd_T64 l0_0 t403).f0), .int .i64 ((rd_T64 l0_0 t403).f1), .string ((rd_T64 l0_0 t403).f2), .string ((rd_T64 l0_0 t403).f3), .string ((rd_T64 l0_0 t403).f4), .slice A404_5 ((rd_T64 l0_0 t403).f5).length c404_5, .slice (some ad406) ((rd_T64 l0_0 t403).f6).length c404_6] 64 (0, 0)) (eB BK405) hb); have n3_ := p' (f' (eH HB) hb); clear BK397; clear BK405; clear HB; have HO409 := n0_; have BK397 := n1_; have BK405 := n2_; have HB := n3_; clear n0_ n1_ n2_ n3_; (try clear hb); (try clear hb2); (try clear hk); (try clear hi); (try clear ho0); obtain ⟨Ao57, co57, eo57⟩ := Kd.S_slice HO409.out; subst eo57) | ((with_reducible refine gate_callee (f := 18) rfl ?_); refine goesL_ (some 65) rfl rfl Try.func18 (by kernel_rfl) rfl #[.agg #[.slice Ao57 t407.length co57, .int .i64 t410, .int .i64 t411], .agg #[.int .i64 2, .int .i64 a1, .int .i64 a2, .int .i64 a3, .string (⟨#[]⟩ : ByteArray), .string (⟨#[]⟩ : ByteArray), .string (⟨#[]⟩ : ByteArray), .string (⟨#[]⟩ : ByteArray), .string (⟨#[]⟩ : ByteArray)]] rfl (by (try simp only [k', l', m']); first | done | rfl | (simp only [n', o']; rfl)) ?_; (with_reducible refine (dom_Apply.calls _ _ t407 t410 t411 2 a1 a2 a3 (⟨#[]⟩ : ByteArray) (⟨#[]⟩ : ByteArray) (⟨#[]⟩ : ByteArray) (⟨#[]⟩ : ByteArray) (⟨#[]⟩ : ByteArray) t412 t415 t416 t417 _ ?side1 ?side2 A46.out).mono ?_); (case side1 => exact Kd.kC (Kd.S_reads' HO409.out).2.2); (case side2 => exact (Kd.S_reads' HO409.out).2.1); rintro e w58 ⟨v413, rfl, ho0, hb⟩; refine ⟨_, rfl, ?_⟩; have n0_ := p' (Kd.S_elder' (Kd.eS HO409) (Kd.S_base ho0) hb); have n1_ := p' (Kd.S_lower (Kd.S_new' ho0 (Kd.S_lt (Kd.eS HO409))) (below_size (eH HB))); have n2_ := p' (d' (g := gb397) (o := .cells #[.slice (some ad402) l0_0.length c0_0, .int .i64 a0_1, .int .i64 a0_2] 24 (0, 0)) (eB BK397) hb); have n3_ := p' (d' (g := gb405) (o := .cells #[.int .i64 ((rd_T64 l0_0 t403).f0), .int .i64 ((rd_T64 l0_0 t403).f1), .string ((rd_T64 l0_0 t403).f2), .string ((rd_T64 l0_0 t403).f3), .string ((rd_T64 l0_0 t403).f4), .slice A404_5 ((rd_T64 l0_0 t403).f5).length c404_5, .slice (some ad406) ((rd_T64 l0_0 t403).f6).length c404_6] 64 (0, 0)) (eB BK405) hb); have n4_ := p' (f' (eH HB) hb); clear HO409; clear BK397; clear BK405; clear HB; have HO409 := n0_; have HO414 := n1_; have BK397 := n2_; have BK405 := n3_; have HB := n4_; clear n0_ n1_ n2_ n3_ n4_; (try clear hb); (try clear hb2); (try clear hk); (try clear hi); (try clear ho0)) | ((with_reducible refine gate_dst (N := 12) rfl ?_); refine box_event ?hg (N := 12) ?hd (cs := #[.slice none 0 0, .int .i64 0, .int .i64 0]) (t := 28) ?hr ?_; (case hd => rfl); (case hg => rfl); (case hr => first | (go_simp; done) | (go_simp; rfl)); intro gb418 hg w59 hbox hb; have n0_ := p' (Kd.S_below (Kd.eS HO409) hb); have n1_ := p' (Kd.S_below (Kd.eS HO414) hb); have n2_ := p' (d' (g := gb397) (o := .cells #[.slice (some ad402) l0_0.length c0_0, .int .i64 a0_1, .int .i64 a0_2] 24 (0, 0)) (eB BK397) hb); have n3_ := p' (d' (g := gb405) (o := .cells #[.int .i64 ((rd_T64 l0_0 t403).f0), .int .i64 ((rd_T64 l0_0 t403).f1), .string ((rd_T64 l0_0 t403).f2), .string ((rd_T64 l0_0 t403).f3), .string ((rd_T64 l0_0 t403).f4), .slice A404_5 ((rd_T64 l0_0 t403).f5).length c404_5, .slice (some ad406) ((rd_T64 l0_0 t403).f6).length c404_6] 64 (0, 0)) (eB BK405) hb); have n4_ := p' (f' (eH HB) hb); have n5_ := p' (hbox); have n6_ := p' ((by rw [hg]; exact (below_size (eH HB)) : w.heap.size ≤ gb418)); have n7_ := p' ((by rw [hg]; exact (below_size (eH HB)) : w.heap.size ≤ gb418)); have n8_ := p' ((by rw [hg]; exact Nat.ne_of_lt (blk_lt (g := gb397) (o := .cells #[.slice (some ad402) l0_0.length c0_0, .int .i64 a0_1, .int .i64 a0_2] 24 (0, 0)) (eB BK397)) : gb397 ≠ gb418)); have n9_ := p' ((by rw [hg]; exact Nat.ne_of_gt (blk_lt (g := gb397) (o := .cells #[.slice (some ad402) l0_0.length c0_0, .int .i64 a0_1, .int .i64 a0_2] 24 (0, 0)) (eB BK397)) : gb418 ≠ gb397)); have n10_ := p' ((by rw [hg]; exact Nat.ne_of_lt (blk_lt (g := gb405) (o := .cells #[.int .i64 ((rd_T64 l0_0 t403).f0), .int .i64 ((rd_T64 l0_0 t403).f1), .string ((rd_T64 l0_0 t403).f2), .string ((rd_T64 l0_0 t403).f3), .string ((rd_T64 l0_0 t403).f4), .slice A404_5 ((rd_T64 l0_0 t403).f5).length c404_5, .slice (some ad406) ((rd_T64 l0_0 t403).f6).length c404_6] 64 (0, 0)) (eB BK405)) : gb405 ≠ gb418)); have n11_ := p' ((by rw [hg]; exact Nat.ne_of_gt (blk_lt (g := gb405) (o := .cells #[.int .i64 ((rd_T64 l0_0 t403).f0), .int .i64 ((rd_T64 l0_0 t403).f1), .string ((rd_T64 l0_0 t403).f2), .string ((rd_T64 l0_0 t403).f3), .string ((rd_T64 l0_0 t403).f4), .slice A404_5 ((rd_T64 l0_0 t403).f5).length c404_5, .slice (some ad406) ((rd_T64 l0_0 t403).f6).length c404_6] 64 (0, 0)) (eB BK405)) : gb418 ≠ gb405)); clear HO409; clear HO414; clear BK397; clear BK405; clear HB; have HO409 := n0_; have HO414 := n1_; have BK397 := n2_; have BK405 := n3_; have HB := n4_; have BK418 := n5_; have GW418 := n6_; have GE418 := n7_; have NB397_418 := n8_; have NB418_397 := n9_; have NB405_418 := n10_; have NB418_405 := n11_; clear n0_ n1_ n2_ n3_ n4_ n5_ n6_ n7_ n8_ n9_ n10_ n11_; clear hb hbox hg; obtain ⟨Ao60, co60, eo60⟩ := Kd.S_slice HO414.out; subst eo60; have hnb61 := NB418_397.out; have hnc61 := NB397_418.out; have hnb62 := NB418_405.out; have hnc62 := NB405_418.out; have hcz63_0 : w59.cell? ⟨gb418, 0, none⟩ = some (.slice none 0 0) := (c' BK418.out 0).trans rfl; have hcz63_1 : w59.cell? ⟨gb418, 1, none⟩ = some (.int .i64 0) := (c' BK418.out 1).trans rfl; have hcz63_2 : w59.cell? ⟨gb418, 2, none⟩ = some (.int .i64 0) := (c' BK418.out 2).trans rfl; have hfz63_0 := b' BK418.out 0; have hfz63_1 := b' BK418.out 1; have hfz63_2 := b' BK418.out 2) | ((with_reducible refine gate_callee (f := 16) rfl ?_); refine goesL_ (some 69) rfl rfl Try.func16 (by kernel_rfl) rfl #[.int .i64 t417] rfl (by (try simp only [k', l', m']); first | done | rfl | (simp only [n', o']; rfl)) ?_; (with_reducible refine (fanlightlaw10_num.calls t417 t419 _ A47.out).mono ?_); rintro e w' ⟨rfl, ⟨nd, rfl⟩⟩; refine ⟨_, rfl, ?_⟩; have hcz64_0 : w59.cell? ⟨gb405, 0, none⟩ = some (.int .i64 ((rd_T64 l0_0 t403).f0)) := (c' BK405.out 0).trans rfl; have hcz64_1 : w59.cell? ⟨gb405, 1, none⟩ = some (.int .i64 ((rd_T64 l0_0 t403).f1)) := (c' BK405.out 1).trans rfl; have hcz64_2 : w59.cell? ⟨gb405, 2, none⟩ = some (.string ((rd_T64 l0_0 t403).f2)) := (c' BK405.out 2).trans rfl; have hcz64_3 : w59.cell? ⟨gb405, 3, none⟩ = some (.string ((rd_T64 l0_0 t403).f3)) := (c' BK405.out 3).trans rfl; have hcz64_4 : w59.cell? ⟨gb405, 4, none⟩ = some (.string ((rd_T64 l0_0 t403).f4)) := (c' BK405.out 4).trans rfl; have hcz64_5 : w59.cell? ⟨gb405, 5, none⟩ = some (.slice A404_5 ((rd_T64 l0_0 t403).f5).length c404_5) := (c' BK405.out 5).trans rfl; have hcz64_6 : w59.cell? ⟨gb405, 6, none⟩ = some (.slice (some ad406) ((rd_T64 l0_0 t403).f6).length c404_6) := (c' BK405.out 6).trans rfl; have hfz64_0 := b' BK405.out 0; have hfz64_1 := b' BK405.out 1; have hfz64_2 := b' BK405.out 2; have hfz64_3 := b' BK405.out 3; have hfz64_4 := b' BK405.out 4; have hfz64_5 := b' BK405.out 5; have hfz64_6 := b' BK405.out 6) | ((with_reducible refine gate_callee (f := 18) rfl ?_); refine goesL_ (some 82) rfl rfl Try.func18 (by kernel_rfl) rfl #[.agg #[.slice Ao60 t412.length co60, .int .i64 t415, .int .i64 t416], .agg #[.int .i64 2, .int .i64 a1, .int .i64 ((rd_T64 l0_0 t403).f0), .int .i64 x11_2, .string (⟨#[]⟩ : ByteArray), .string (⟨#[]⟩ : ByteArray), .string (⟨#[]⟩ : ByteArray), .string (⟨#[]⟩ : ByteArray), .string (⟨#[]⟩ : ByteArray)]] rfl (by (try simp only [k', l', m']); first | done | rfl | (simp only [n', o']; rfl)) ?_; (with_reducible refine (dom_Apply.calls _ _ t412 t415 t416 2 a1 ((rd_T64 l0_0 t403).f0) x11_2 (⟨#[]⟩ : ByteArray) (⟨#[]⟩ : ByteArray) (⟨#[]⟩ : ByteArray) (⟨#[]⟩ : ByteArray) (⟨#[]⟩ : ByteArray) t420 t423 t424 t425 _ ?side1 ?side2 A49.out).mono ?_); (case side1 => refine (Kd.S_reads' (e := 63) (base := w.heap.size) (ok := fun k_ => (True ∧ some k_ ≠ (.slice Ao57 t407.length co57 : Value).ownBlock)) (n := t412.length) (c := co60) ?_).2.2; exact (Kd.kS (Kd.S_mono (e' (p := ⟨gb418, 2, none⟩) (e' (p := ⟨gb418, 1, none⟩) (e' (p := ⟨gb418, 0, none⟩) (Kd.S_types HO414.out BK418.out (by decide)) (fun _ hk => hk.2) (.slice Ao60 t412.length co60)) (fun _ hk => hk.2) (.int .i64 t415)) (fun _ hk => hk.2) (.int .i64 t416)) (fun _ h_ => h_.1)))); (case side2 => exact (Kd.S_reads' HO414.out).2.1); rintro e w65 ⟨v421, rfl, ho0, hb⟩; refine ⟨_, rfl, ?_⟩; have n0_ := p' (Kd.S_elder' (Kd.kS (Kd.S_mono (e' (p := ⟨gb418, 2, none⟩) (e' (p := ⟨gb418, 1, none⟩) (e' (p := ⟨gb418, 0, none⟩) (Kd.S_types HO409.out BK418.out (by decide)) (fun _ hk => hk.2) (.slice Ao60 t412.length co60)) (fun _ hk => hk.2) (.int .i64 t415)) (fun _ hk => hk.2) (.int .i64 t416)) (fun _ h_ => h_.1))) (Kd.S_base ho0) hb); have n1_ := p' (Kd.S_elder' (Kd.kS (Kd.S_mono (e' (p := ⟨gb418, 2, none⟩) (e' (p := ⟨gb418, 1, none⟩) (e' (p := ⟨gb418, 0, none⟩) (Kd.S_types HO414.out BK418.out (by decide)) (fun _ hk => hk.2) (.slice Ao60 t412.length co60)) (fun _ hk => hk.2) (.int .i64 t415)) (fun _ hk => hk.2) (.int .i64 t416)) (fun _ h_ => h_.1))) (Kd.S_base ho0) hb); have n2_ := p' (Kd.S_lower (Kd.S_new' (Kd.S_new' ho0 (Kd.S_lt (Kd.kS (Kd.S_mono (e' (p := ⟨gb418, 2, none⟩) (e' (p := ⟨gb418, 1, none⟩) (e' (p := ⟨gb418, 0, none⟩) (Kd.S_types HO409.out BK418.out (by decide)) (fun _ hk => hk.2) (.slice Ao60 t412.length co60)) (fun _ hk => hk.2) (.int .i64 t415)) (fun _ hk => hk.2) (.int .i64 t416)) (fun _ h_ => h_.1))))) (Kd.S_lt (Kd.kS (Kd.S_mono (e' (p := ⟨gb418, 2, none⟩) (e' (p := ⟨gb418, 1, none⟩) (e' (p := ⟨gb418, 0, none⟩) (Kd.S_types HO414.out BK418.out (by decide)) (fun _ hk => hk.2) (.slice Ao60 t412.length co60)) (fun _ hk => hk.2) (.int .i64 t415)) (fun _ hk => hk.2) (.int .i64 t416)) (fun _ h_ => h_.1))))) (below_size (eH HB))); have n3_ := p' (d' (g := gb397) (o := .cells #[.slice (some ad402) l0_0.length c0_0, .int .i64 a0_1, .int .i64 a0_2] 24 (0, 0)) (by refine eK ?_; refine blk_far ?_ NB397_418.out _; refine eK ?_; refine blk_far ?_ NB397_418.out _; refine eK ?_; refine blk_far ?_ NB397_418.out _; refine eK ?_; exact BK397.out) hb); have n4_ := p' (d' (g := gb405) (o := .cells #[.int .i64 ((rd_T64 l0_0 t403).f0), .int .i64 ((rd_T64 l0_0 t403).f1), .string ((rd_T64 l0_0 t403).f2), .string ((rd_T64 l0_0 t403).f3), .string ((rd_T64 l0_0 t403).f4), .slice A404_5 ((rd_T64 l0_0 t403).f5).length c404_5, .slice (some ad406) ((rd_T64 l0_0 t403).f6).length c404_6] 64 (0, 0)) (by refine eK ?_; refine blk_far ?_ NB405_418.out _; refine eK ?_; refine blk_far ?_ NB405_418.out _; refine eK ?_; refine blk_far ?_ NB405_418.out _; refine eK ?_; exact BK405.out) hb); have n5_ := p' (d' (g := gb418) (o := .cells #[.slice Ao60 t412.length co60, .int .i64 t415, .int .i64 t416] 28 (0, 0)) (by refine eK ?_; refine blk_put (cs := #[.slice Ao60 t412.length co60, .int .i64 t415, .int .i64 0]) ?_ 2 _ rfl; refine eK ?_; refine blk_put (cs := #[.slice Ao60 t412.length co60, .int .i64 0, .int .i64 0]) ?_ 1 _ rfl; refine eK ?_; refine blk_put (cs := #[.slice none 0 0, .int .i64 0, .int .i64 0]) ?_ 0 _ rfl; refine eK ?_; exact BK418.out) hb); have n6_ := p' (f' (eH HB) hb); clear HO409; clear HO414; clear BK397; clear BK405; clear BK418; clear HB; have HO409 := n0_; have HO414 := n1_; have HO422 := n2_; have BK397 := n3_; have BK405 := n4_; have BK418 := n5_; have HB := n6_; clear n0_ n1_ n2_ n3_ n4_ n5_ n6_; (try clear hb); (try clear hb2); (try clear hk); (try clear hi); (try clear ho0)) | ((with_reducible refine gate_dst (N := 14) rfl ?_); refine box_event ?hg (N := 14) ?hd (cs := #[.slice none 0 0, .int .i64 0, .int .i64 0]) (t := 28) ?hr ?_; (case hd => rfl); (case hg => rfl); (case hr => first | (go_simp; done) | (go_simp; rfl)); intro gb426 hg w66 hbox hb; have n0_ := p' (Kd.S_below (Kd.eS HO409) hb); have n1_ := p' (Kd.S_below (Kd.eS HO414) hb); have n2_ := p' (Kd.S_below (Kd.eS HO422) hb); have n3_ := p' (d' (g := gb397) (o := .cells #[.slice (some ad402) l0_0.length c0_0, .int .i64 a0_1, .int .i64 a0_2] 24 (0, 0)) (eB BK397) hb); have n4_ := p' (d' (g := gb405) (o := .cells #[.int .i64 ((rd_T64 l0_0 t403).f0), .int .i64 ((rd_T64 l0_0 t403).f1), .string ((rd_T64 l0_0 t403).f2), .string ((rd_T64 l0_0 t403).f3), .string ((rd_T64 l0_0 t403).f4), .slice A404_5 ((rd_T64 l0_0 t403).f5).length c404_5, .slice (some ad406) ((rd_T64 l0_0 t403).f6).length c404_6] 64 (0, 0)) (eB BK405) hb); have n5_ := p' (d' (g := gb418) (o := .cells #[.slice Ao60 t412.length co60, .int .i64 t415, .int .i64 t416] 28 (0, 0)) (eB BK418) hb); have n6_ := p' (f' (eH HB) hb); have n7_ := p' (hbox); have n8_ := p' ((by rw [hg]; exact (below_size (eH HB)) : w.heap.size ≤ gb426)); have n9_ := p' ((by rw [hg]; exact (below_size (eH HB)) : w.heap.size ≤ gb426)); have n10_ := p' ((by rw [hg]; exact Nat.ne_of_lt (blk_lt (g := gb397) (o := .cells #[.slice (some ad402) l0_0.length c0_0, .int .i64 a0_1, .int .i64 a0_2] 24 (0, 0)) (eB BK397)) : gb397 ≠ gb426)); have n11_ := p' ((by rw [hg]; exact Nat.ne_of_gt (blk_lt (g := gb397) (o := .cells #[.slice (some ad402) l0_0.length c0_0, .int .i64 a0_1, .int .i64 a0_2] 24 (0, 0)) (eB BK397)) : gb426 ≠ gb397)); have n12_ := p' ((by rw [hg]; exact Nat.ne_of_lt (blk_lt (g := gb405) (o := .cells #[.int .i64 ((rd_T64 l0_0 t403).f0), .int .i64 ((rd_T64 l0_0 t403).f1), .string ((rd_T64 l0_0 t403).f2), .string ((rd_T64 l0_0 t403).f3), .string ((rd_T64 l0_0 t403).f4), .slice A404_5 ((rd_T64 l0_0 t403).f5).length c404_5, .slice (some ad406) ((rd_T64 l0_0 t403).f6).length c404_6] 64 (0, 0)) (eB BK405)) : gb405 ≠ gb426)); have n13_ := p' ((by rw [hg]; exact Nat.ne_of_gt (blk_lt (g := gb405) (o := .cells #[.int .i64 ((rd_T64 l0_0 t403).f0), .int .i64 ((rd_T64 l0_0 t403).f1), .string ((rd_T64 l0_0 t403).f2), .string ((rd_T64 l0_0 t403).f3), .string ((rd_T64 l0_0 t403).f4), .slice A404_5 ((rd_T64 l0_0 t403).f5).length c404_5, .slice (some ad406) ((rd_T64 l0_0 t403).f6).length c404_6] 64 (0, 0)) (eB BK405)) : gb426 ≠ gb405)); have n14_ := p' ((by rw [hg]; exact Nat.ne_of_lt (blk_lt (g := gb418) (o := .cells #[.slice Ao60 t412.length co60, .int .i64 t415, .int .i64 t416] 28 (0, 0)) (eB BK418)) : gb418 ≠ gb426)); have n15_ := p' ((by rw [hg]; exact Nat.ne_of_gt (blk_lt (g := gb418) (o := .cells #[.slice Ao60 t412.length co60, .int .i64 t415, .int .i64 t416] 28 (0, 0)) (eB BK418)) : gb426 ≠ gb418)); clear HO409; clear HO414; clear HO422; clear BK397; clear BK405; clear BK418; clear HB; have HO409 := n0_; have HO414 := n1_; have HO422 := n2_; have BK397 := n3_; have BK405 := n4_; have BK418 := n5_; have HB := n6_; have BK426 := n7_; have GW426 := n8_; have GE426 := n9_; have NB397_426 := n10_; have NB426_397 := n11_; have NB405_426 := n12_; have NB426_405 := n13_; have NB418_426 := n14_; have NB426_418 := n15_; clear n0_ n1_ n2_ n3_ n4_ n5_ n6_ n7_ n8_ n9_ n10_ n11_ n12_ n13_ n14_ n15_; clear hb hbox hg; obtain ⟨Ao67, co67, eo67⟩ := Kd.S_slice HO422.out; subst eo67; have hnb68 := NB426_397.out; have hnc68 := NB397_426.out; have hnb69 := NB426_405.out; have hnc69 := NB405_426.out; have hnb70 := NB426_418.out; have hnc70 := NB418_426.out; have hcz71_0 : w66.cell? ⟨gb426, 0, none⟩ = some (.slice none 0 0) := (c' BK426.out 0).trans rfl; have hcz71_1 : w66.cell? ⟨gb426, 1, none⟩ = some (.int .i64 0) := (c' BK426.out 1).trans rfl; have hcz71_2 : w66.cell? ⟨gb426, 2, none⟩ = some (.int .i64 0) := (c' BK426.out 2).trans rfl; have hfz71_0 := b' BK426.out 0; have hfz71_1 := b' BK426.out 1; have hfz71_2 := b' BK426.out 2) | ((with_reducible refine gate_callee (f := 16) rfl ?_); refine goesL_ (some 86) rfl rfl Try.func16 (by kernel_rfl) rfl #[.int .i64 t425] rfl (by (try simp only [k', l', m']); first | done | rfl | (simp only [n', o']; rfl)) ?_; (with_reducible refine (fanlightlaw10_num.calls t425 t427 _ A50.out).mono ?_); rintro e w' ⟨rfl, ⟨nd, rfl⟩⟩; refine ⟨_, rfl, ?_⟩; have hcz72_0 : w66.cell? ⟨gb397, 0, none⟩ = some (.slice (some ad402) l0_0.length c0_0) := (c' BK397.out 0).trans rfl; have hcz72_1 : w66.cell? ⟨gb397, 1, none⟩ = some (.int .i64 a0_1) := (c' BK397.out 1).trans rfl; have hcz72_2 : w66.cell? ⟨gb397, 2, none⟩ = some (.int .i64 a0_2) := (c' BK397.out 2).trans rfl; have hfz72_0 := b' BK397.out 0; have hfz72_1 := b' BK397.out 1; have hfz72_2 := b' BK397.out 2) | (go_at_call 15; (with_reducible refine (fanlightlaw10_Alike.calls _ _ t420 t423 t424 _ _ l0_0 a0_1 a0_2 t428 _ ?side1 ?side2 ?side3 ?side4 A52.out).mono ?_); (case side1 => refine (Kd.S_reads' (e := 63) (base := w.heap.size) (ok := fun k_ => ((True ∧ some k_ ≠ (.slice Ao57 t407.length co57 : Value).ownBlock) ∧ some k_ ≠ (.slice Ao60 t412.length co60 : Value).ownBlock)) (n := t420.length) (c := co67) ?_).2.2; exact (Kd.kS (Kd.S_mono (e' (p := ⟨gb426, 2, none⟩) (e' (p := ⟨gb426, 1, none⟩) (e' (p := ⟨gb426, 0, none⟩) (Kd.S_types HO422.out BK426.out (by decide)) (fun _ hk => hk.2) (.slice Ao67 t420.length co67)) (fun _ hk => hk.2) (.int .i64 t423)) (fun _ hk => hk.2) (.int .i64 t424)) (fun _ h_ => h_.1)))); (case side2 => exact (Kd.S_reads' HO422.out).2.1); (case side3 => exact Kd.C_below HR0_0.out (eH HB)); (case side4 => exact HC0_0.out); rintro e w73 ⟨rfl, hb⟩; have n0_ := p' (Kd.S_below (Kd.kS (Kd.S_mono (e' (p := ⟨gb426, 2, none⟩) (e' (p := ⟨gb426, 1, none⟩) (e' (p := ⟨gb426, 0, none⟩) (Kd.S_types HO409.out BK426.out (by decide)) (fun _ hk => hk.2) (.slice Ao67 t420.length co67)) (fun _ hk => hk.2) (.int .i64 t423)) (fun _ hk => hk.2) (.int .i64 t424)) (fun _ h_ => h_.1))) hb); have n1_ := p' (Kd.S_below (Kd.kS (Kd.S_mono (e' (p := ⟨gb426, 2, none⟩) (e' (p := ⟨gb426, 1, none⟩) (e' (p := ⟨gb426, 0, none⟩) (Kd.S_types HO414.out BK426.out (by decide)) (fun _ hk => hk.2) (.slice Ao67 t420.length co67)) (fun _ hk => hk.2) (.int .i64 t423)) (fun _ hk => hk.2) (.int .i64 t424)) (fun _ h_ => h_.1))) hb); have n2_ := p' (Kd.S_below (Kd.kS (Kd.S_mono (e' (p := ⟨gb426, 2, none⟩) (e' (p := ⟨gb426, 1, none⟩) (e' (p := ⟨gb426, 0, none⟩) (Kd.S_types HO422.out BK426.out (by decide)) (fun _ hk => hk.2) (.slice Ao67 t420.length co67)) (fun _ hk => hk.2) (.int .i64 t423)) (fun _ hk => hk.2) (.int .i64 t424)) (fun _ h_ => h_.1))) hb); have n3_ := p' (d' (g := gb397) (o := .cells #[.slice (some ad402) l0_0.length c0_0, .int .i64 a0_1, .int .i64 a0_2] 24 (0, 0)) (by refine eK ?_; refine blk_far ?_ NB397_426.out _; refine eK ?_; refine blk_far ?_ NB397_426.out _; refine eK ?_; refine blk_far ?_ NB397_426.out _; refine eK ?_; exact BK397.out) hb); have n4_ := p' (d' (g := gb405) (o := .cells #[.int .i64 ((rd_T64 l0_0 t403).f0), .int .i64 ((rd_T64 l0_0 t403).f1), .string ((rd_T64 l0_0 t403).f2), .string ((rd_T64 l0_0 t403).f3), .string ((rd_T64 l0_0 t403).f4), .slice A404_5 ((rd_T64 l0_0 t403).f5).length c404_5, .slice (some ad406) ((rd_T64 l0_0 t403).f6).length c404_6] 64 (0, 0)) (by refine eK ?_; refine blk_far ?_ NB405_426.out _; refine eK ?_; refine blk_far ?_ NB405_426.out _; refine eK ?_; refine blk_far ?_ NB405_426.out _; refine eK ?_; exact BK405.out) hb); have n5_ := p' (d' (g := gb418) (o := .cells #[.slice Ao60 t412.length co60, .int .i64 t415, .int .i64 t416] 28 (0, 0)) (by refine eK ?_; refine blk_far ?_ NB418_426.out _; refine eK ?_; refine blk_far ?_ NB418_426.out _; refine eK ?_; refine blk_far ?_ NB418_426.out _; refine eK ?_; exact BK418.out) hb); have n6_ := p' (d' (g := gb426) (o := .cells #[.slice Ao67 t420.length co67, .int .i64 t423, .int .i64 t424] 28 (0, 0)) (by refine eK ?_; refine blk_put (cs := #[.slice Ao67 t420.length co67, .int .i64 t423, .int .i64 0]) ?_ 2 _ rfl; refine eK ?_; refine blk_put (cs := #[.slice Ao67 t420.length co67, .int .i64 0, .int .i64 0]) ?_ 1 _ rfl; refine eK ?_; refine blk_put (cs := #[.slice none 0 0, .int .i64 0, .int .i64 0]) ?_ 0 _ rfl; refine eK ?_; exact BK426.out) hb); have n7_ := p' (f' (eH HB) hb); clear HO409; clear HO414; clear HO422; clear BK397; clear BK405; clear BK418; clear BK426; clear HB; have HO409 := n0_; have HO414 := n1_; have HO422 := n2_; have BK397 := n3_; have BK405 := n4_; have BK418 := n5_; have BK426 := n6_; have HB := n7_; clear n0_ n1_ n2_ n3_ n4_ n5_ n6_ n7_; (try clear hb); (try clear hb2); (try clear hk); (try clear hi)))
                go_ret
                exact ⟨by first | rfl | (simp [errW_none, errW_some] <;> rfl) | (simp [*, errW_none, errW_some] <;> rfl), eH HB⟩
               ·
                rw [if_neg c51] at H
                have c51b0 : (t427 == 0) = false := beq_eq_false_iff_ne.mpr c51
                have c51b1 : (t427 != 0) = true := bne_iff_ne.mpr c51
                obtain rfl := Option.some.inj H
                cases hT
              ·
               rw [if_neg c48] at H
               have c48b0 : (t419 == 0) = false := beq_eq_false_iff_ne.mpr c48
               have c48b1 : (t419 != 0) = true := bne_iff_ne.mpr c48
               obtain rfl := Option.some.inj H
               have hnb93 := NB405_397.out
               have hnc93 := NB397_405.out
               have hcz94_0 : wr.cell? ⟨gb405, 0, none⟩ = some (.int .i64 ((rd_T64 l0_0 t403).f0)) := (c' BK405.out 0).trans rfl
               have hcz94_1 : wr.cell? ⟨gb405, 1, none⟩ = some (.int .i64 ((rd_T64 l0_0 t403).f1)) := (c' BK405.out 1).trans rfl
               have hcz94_2 : wr.cell? ⟨gb405, 2, none⟩ = some (.string ((rd_T64 l0_0 t403).f2)) := (c' BK405.out 2).trans rfl
               have hcz94_3 : wr.cell? ⟨gb405, 3, none⟩ = some (.string ((rd_T64 l0_0 t403).f3)) := (c' BK405.out 3).trans rfl
               have hcz94_4 : wr.cell? ⟨gb405, 4, none⟩ = some (.string ((rd_T64 l0_0 t403).f4)) := (c' BK405.out 4).trans rfl
               have hcz94_5 : wr.cell? ⟨gb405, 5, none⟩ = some (.slice A404_5 ((rd_T64 l0_0 t403).f5).length c404_5) := (c' BK405.out 5).trans rfl
               have hcz94_6 : wr.cell? ⟨gb405, 6, none⟩ = some (.slice A404_6 ((rd_T64 l0_0 t403).f6).length c404_6) := (c' BK405.out 6).trans rfl
               have hfz94_0 := b' BK405.out 0
               have hfz94_1 := b' BK405.out 1
               have hfz94_2 := b' BK405.out 2
               have hfz94_3 := b' BK405.out 3
               have hfz94_4 := b' BK405.out 4
               have hfz94_5 := b' BK405.out 5
               have hfz94_6 := b' BK405.out 6
               have p406 : 0 ≤ (x11_2 : Int) := of_decide_eq_true (by first | (with_reducible assumption) | assumption)
               have q406 : x11_2 < (((rd_T64 l0_0 t403).f6).length : Int) := of_decide_eq_true (by first | (with_reducible assumption) | assumption)
               obtain ⟨ad406, e406, hx406_0⟩ := Kd.at_int HR404_6.out x11_2 p406 q406
               cases e406
               replace hx406_0 := (HB.out.cell (World.block_lt_of_cell? w _ hx406_0)).trans hx406_0
               replace p406 := eq_true p406
               replace q406 := eq_true q406
               have hcz95_0 : wr.cell? ⟨gb397, 0, none⟩ = some (.slice (some ad402) l0_0.length c0_0) := (c' BK397.out 0).trans rfl
               have hcz95_1 : wr.cell? ⟨gb397, 1, none⟩ = some (.int .i64 a0_1) := (c' BK397.out 1).trans rfl
               have hcz95_2 : wr.cell? ⟨gb397, 2, none⟩ = some (.int .i64 a0_2) := (c' BK397.out 2).trans rfl
               have hfz95_0 := b' BK397.out 0
               have hfz95_1 := b' BK397.out 1
               have hfz95_2 := b' BK397.out 2
               go_wp2_with (first | ((with_reducible refine gate_callee (f := 11) rfl ?_); refine goesL_ (some 60) rfl rfl Try.func11 (by kernel_rfl) rfl #[.agg #[.slice (some ad402) l0_0.length c0_0, .int .i64 a0_1, .int .i64 a0_2]] rfl (by (try simp only [k', l', m']); first | done | rfl | (simp only [n', o']; rfl)) ?_; (with_reducible refine (fanlightlaw10_Of.calls k2 _ _ l0_0 a0_1 a0_2 t407 t410 t411 _ ?side1 ?side2 A45.out).mono ?_); (case side1 => exact Kd.eC HR0_0 HB); (case side2 => exact HC0_0.out); rintro e w96 ⟨v408, rfl, ho0, hb⟩; refine ⟨_, rfl, ?_⟩; have n0_ := p' (Kd.S_lower ho0 (below_size (eH HB))); have n1_ := p' (d' (g := gb397) (o := .cells #[.slice (some ad402) l0_0.length c0_0, .int .i64 a0_1, .int .i64 a0_2] 24 (0, 0)) (eB BK397) hb); have n2_ := p' (d' (g := gb405) (o := .cells #[.int .i64 ((rd_T64 l0_0 t403).f0), .int .i64 ((rd_T64 l0_0 t403).f1), .string ((rd_T64 l0_0 t403).f2), .string ((rd_T64 l0_0 t403).f3), .string ((rd_T64 l0_0 t403).f4), .slice A404_5 ((rd_T64 l0_0 t403).f5).length c404_5, .slice (some ad406) ((rd_T64 l0_0 t403).f6).length c404_6] 64 (0, 0)) (eB BK405) hb); have n3_ := p' (f' (eH HB) hb); clear BK397; clear BK405; clear HB; have HO409 := n0_; have BK397 := n1_; have BK405 := n2_; have HB := n3_; clear n0_ n1_ n2_ n3_; (try clear hb); (try clear hb2); (try clear hk); (try clear hi); (try clear ho0); obtain ⟨Ao97, co97, eo97⟩ := Kd.S_slice HO409.out; subst eo97) | ((with_reducible refine gate_callee (f := 18) rfl ?_); refine goesL_ (some 65) rfl rfl Try.func18 (by kernel_rfl) rfl #[.agg #[.slice Ao97 t407.length co97, .int .i64 t410, .int .i64 t411], .agg #[.int .i64 2, .int .i64 a1, .int .i64 a2, .int .i64 a3, .string (⟨#[]⟩ : ByteArray), .string (⟨#[]⟩ : ByteArray), .string (⟨#[]⟩ : ByteArray), .string (⟨#[]⟩ : ByteArray), .string (⟨#[]⟩ : ByteArray)]] rfl (by (try simp only [k', l', m']); first | done | rfl | (simp only [n', o']; rfl)) ?_; (with_reducible refine (dom_Apply.calls _ _ t407 t410 t411 2 a1 a2 a3 (⟨#[]⟩ : ByteArray) (⟨#[]⟩ : ByteArray) (⟨#[]⟩ : ByteArray) (⟨#[]⟩ : ByteArray) (⟨#[]⟩ : ByteArray) t412 t415 t416 t417 _ ?side1 ?side2 A46.out).mono ?_); (case side1 => exact Kd.kC (Kd.S_reads' HO409.out).2.2); (case side2 => exact (Kd.S_reads' HO409.out).2.1); rintro e w98 ⟨v413, rfl, ho0, hb⟩; refine ⟨_, rfl, ?_⟩; have n0_ := p' (Kd.S_elder' (Kd.eS HO409) (Kd.S_base ho0) hb); have n1_ := p' (Kd.S_lower (Kd.S_new' ho0 (Kd.S_lt (Kd.eS HO409))) (below_size (eH HB))); have n2_ := p' (d' (g := gb397) (o := .cells #[.slice (some ad402) l0_0.length c0_0, .int .i64 a0_1, .int .i64 a0_2] 24 (0, 0)) (eB BK397) hb); have n3_ := p' (d' (g := gb405) (o := .cells #[.int .i64 ((rd_T64 l0_0 t403).f0), .int .i64 ((rd_T64 l0_0 t403).f1), .string ((rd_T64 l0_0 t403).f2), .string ((rd_T64 l0_0 t403).f3), .string ((rd_T64 l0_0 t403).f4), .slice A404_5 ((rd_T64 l0_0 t403).f5).length c404_5, .slice (some ad406) ((rd_T64 l0_0 t403).f6).length c404_6] 64 (0, 0)) (eB BK405) hb); have n4_ := p' (f' (eH HB) hb); clear HO409; clear BK397; clear BK405; clear HB; have HO409 := n0_; have HO414 := n1_; have BK397 := n2_; have BK405 := n3_; have HB := n4_; clear n0_ n1_ n2_ n3_ n4_; (try clear hb); (try clear hb2); (try clear hk); (try clear hi); (try clear ho0)) | ((with_reducible refine gate_dst (N := 12) rfl ?_); refine box_event ?hg (N := 12) ?hd (cs := #[.slice none 0 0, .int .i64 0, .int .i64 0]) (t := 28) ?hr ?_; (case hd => rfl); (case hg => rfl); (case hr => first | (go_simp; done) | (go_simp; rfl)); intro gb418 hg w99 hbox hb; have n0_ := p' (Kd.S_below (Kd.eS HO409) hb); have n1_ := p' (Kd.S_below (Kd.eS HO414) hb); have n2_ := p' (d' (g := gb397) (o := .cells #[.slice (some ad402) l0_0.length c0_0, .int .i64 a0_1, .int .i64 a0_2] 24 (0, 0)) (eB BK397) hb); have n3_ := p' (d' (g := gb405) (o := .cells #[.int .i64 ((rd_T64 l0_0 t403).f0), .int .i64 ((rd_T64 l0_0 t403).f1), .string ((rd_T64 l0_0 t403).f2), .string ((rd_T64 l0_0 t403).f3), .string ((rd_T64 l0_0 t403).f4), .slice A404_5 ((rd_T64 l0_0 t403).f5).length c404_5, .slice (some ad406) ((rd_T64 l0_0 t403).f6).length c404_6] 64 (0, 0)) (eB BK405) hb); have n4_ := p' (f' (eH HB) hb); have n5_ := p' (hbox); have n6_ := p' ((by rw [hg]; exact (below_size (eH HB)) : w.heap.size ≤ gb418)); have n7_ := p' ((by rw [hg]; exact (below_size (eH HB)) : w.heap.size ≤ gb418)); have n8_ := p' ((by rw [hg]; exact Nat.ne_of_lt (blk_lt (g := gb397) (o := .cells #[.slice (some ad402) l0_0.length c0_0, .int .i64 a0_1, .int .i64 a0_2] 24 (0, 0)) (eB BK397)) : gb397 ≠ gb418)); have n9_ := p' ((by rw [hg]; exact Nat.ne_of_gt (blk_lt (g := gb397) (o := .cells #[.slice (some ad402) l0_0.length c0_0, .int .i64 a0_1, .int .i64 a0_2] 24 (0, 0)) (eB BK397)) : gb418 ≠ gb397)); have n10_ := p' ((by rw [hg]; exact Nat.ne_of_lt (blk_lt (g := gb405) (o := .cells #[.int .i64 ((rd_T64 l0_0 t403).f0), .int .i64 ((rd_T64 l0_0 t403).f1), .string ((rd_T64 l0_0 t403).f2), .string ((rd_T64 l0_0 t403).f3), .string ((rd_T64 l0_0 t403).f4), .slice A404_5 ((rd_T64 l0_0 t403).f5).length c404_5, .slice (some ad406) ((rd_T64 l0_0 t403).f6).length c404_6] 64 (0, 0)) (eB BK405)) : gb405 ≠ gb418)); have n11_ := p' ((by rw [hg]; exact Nat.ne_of_gt (blk_lt (g := gb405) (o := .cells #[.int .i64 ((rd_T64 l0_0 t403).f0), .int .i64 ((rd_T64 l0_0 t403).f1), .string ((rd_T64 l0_0 t403).f2), .string ((rd_T64 l0_0 t403).f3), .string ((rd_T64 l0_0 t403).f4), .slice A404_5 ((rd_T64 l0_0 t403).f5).length c404_5, .slice (some ad406) ((rd_T64 l0_0 t403).f6).length c404_6] 64 (0, 0)) (eB BK405)) : gb418 ≠ gb405)); clear HO409; clear HO414; clear BK397; clear BK405; clear HB; have HO409 := n0_; have HO414 := n1_; have BK397 := n2_; have BK405 := n3_; have HB := n4_; have BK418 := n5_; have GW418 := n6_; have GE418 := n7_; have NB397_418 := n8_; have NB418_397 := n9_; have NB405_418 := n10_; have NB418_405 := n11_; clear n0_ n1_ n2_ n3_ n4_ n5_ n6_ n7_ n8_ n9_ n10_ n11_; clear hb hbox hg; obtain ⟨Ao100, co100, eo100⟩ := Kd.S_slice HO414.out; subst eo100; have hnb101 := NB418_397.out; have hnc101 := NB397_418.out; have hnb102 := NB418_405.out; have hnc102 := NB405_418.out; have hcz103_0 : w99.cell? ⟨gb418, 0, none⟩ = some (.slice none 0 0) := (c' BK418.out 0).trans rfl; have hcz103_1 : w99.cell? ⟨gb418, 1, none⟩ = some (.int .i64 0) := (c' BK418.out 1).trans rfl; have hcz103_2 : w99.cell? ⟨gb418, 2, none⟩ = some (.int .i64 0) := (c' BK418.out 2).trans rfl; have hfz103_0 := b' BK418.out 0; have hfz103_1 := b' BK418.out 1; have hfz103_2 := b' BK418.out 2) | ((with_reducible refine gate_callee (f := 16) rfl ?_); refine goesL_ (some 69) rfl rfl Try.func16 (by kernel_rfl) rfl #[.int .i64 t417] rfl (by (try simp only [k', l', m']); first | done | rfl | (simp only [n', o']; rfl)) ?_; (with_reducible refine (fanlightlaw10_num.calls t417 t419 _ A47.out).mono ?_); rintro e w' ⟨rfl, ⟨nd, rfl⟩⟩; refine ⟨_, rfl, ?_⟩))
               go_ret
               exact ⟨by first | rfl | (simp [errW_none, errW_some] <;> rfl) | (simp [*, errW_none, errW_some] <;> rfl), eH HB⟩
             ·
              rw [if_neg c44] at H
              have c44b0 : ((rd ((rd_T64 l0_0 t403).f6) x11_2) == a1) = false := beq_eq_false_iff_ne.mpr c44
              have c44b1 : ((rd ((rd_T64 l0_0 t403).f6) x11_2) != a1) = true := bne_iff_ne.mpr c44
              have H' := p' H
              clear H
              have hnb104 := NB405_397.out
              have hnc104 := NB397_405.out
              have hcz105_0 : wr.cell? ⟨gb405, 0, none⟩ = some (.int .i64 ((rd_T64 l0_0 t403).f0)) := (c' BK405.out 0).trans rfl
              have hcz105_1 : wr.cell? ⟨gb405, 1, none⟩ = some (.int .i64 ((rd_T64 l0_0 t403).f1)) := (c' BK405.out 1).trans rfl
              have hcz105_2 : wr.cell? ⟨gb405, 2, none⟩ = some (.string ((rd_T64 l0_0 t403).f2)) := (c' BK405.out 2).trans rfl
              have hcz105_3 : wr.cell? ⟨gb405, 3, none⟩ = some (.string ((rd_T64 l0_0 t403).f3)) := (c' BK405.out 3).trans rfl
              have hcz105_4 : wr.cell? ⟨gb405, 4, none⟩ = some (.string ((rd_T64 l0_0 t403).f4)) := (c' BK405.out 4).trans rfl
              have hcz105_5 : wr.cell? ⟨gb405, 5, none⟩ = some (.slice A404_5 ((rd_T64 l0_0 t403).f5).length c404_5) := (c' BK405.out 5).trans rfl
              have hcz105_6 : wr.cell? ⟨gb405, 6, none⟩ = some (.slice A404_6 ((rd_T64 l0_0 t403).f6).length c404_6) := (c' BK405.out 6).trans rfl
              have hfz105_0 := b' BK405.out 0
              have hfz105_1 := b' BK405.out 1
              have hfz105_2 := b' BK405.out 2
              have hfz105_3 := b' BK405.out 3
              have hfz105_4 := b' BK405.out 4
              have hfz105_5 := b' BK405.out 5
              have hfz105_6 := b' BK405.out 6
              have p406 : 0 ≤ (x11_2 : Int) := of_decide_eq_true (by first | (with_reducible assumption) | assumption)
              have q406 : x11_2 < (((rd_T64 l0_0 t403).f6).length : Int) := of_decide_eq_true (by first | (with_reducible assumption) | assumption)
              obtain ⟨ad406, e406, hx406_0⟩ := Kd.at_int HR404_6.out x11_2 p406 q406
              cases e406
              replace hx406_0 := (HB.out.cell (World.block_lt_of_cell? w _ hx406_0)).trans hx406_0
              replace p406 := eq_true p406
              replace q406 := eq_true q406
              go_wp2
              go_roundg k2
              case measure => have := HJ7.out; have := HK2.out; omega
              case rel => exact ⟨(wrap64 (x11_2 + 1)), (by first | rfl | (simp; done) | (simp [*]; done)), H', ⟨by have := HJ7.out; have := HK2.out; omega⟩, ⟨eB BK397⟩, ⟨eB BK405⟩, ⟨eH HB⟩⟩
            ·
             rw [if_neg c43] at H
             exact absurd H (by simp)
           ·
            rw [if_neg c42] at H
            exact absurd H (by simp)
        ·
         rw [if_neg c30] at H
         exact absurd H (by simp)
       ·
        rw [if_neg c29] at H
        exact absurd H (by simp)
      ·
       rw [if_neg c27] at H
       exact absurd H (by simp)
     ·
      rw [if_neg c26] at H
      exact absurd H (by simp)
 ·
  replace c6 := Bool.eq_false_iff.mpr c6
  subst c6
  have H1 : (some false) = some r := by rw [if_neg (show ¬ (false = true) by decide)] at H; exact H
  clear H
  have H := H1
  clear H1
  obtain rfl := Option.some.inj H
  cases hT
end Go.Proofs.Ytleofbidijbahaa.D
