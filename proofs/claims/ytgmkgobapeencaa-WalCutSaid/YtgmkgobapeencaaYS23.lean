import Derived.Test.YtgmkgobapeencaaYS2
import Derived.Test.YtgmkgobapeencaaYAid3
import Derived.Test.YtgmkgobapeencaaYS19
import Derived.Test.YtgmkgobapeencaaYS20
set_option maxHeartbeats 8000000
set_option maxRecDepth 100000
namespace Go.Proofs.Ytgmkgobapeencaa.S
open Go.Proofs.YtgmkgobapeencaaW.PrintWords renaming blk_frozen → b'
open Go.Proofs.YtgmkgobapeencaaW.PrintWords.Aside0 renaming mk → c'
open Bool renaming true → Y, false → Z
open Go.RowKit Go.Proofs.YtgmkgobapeencaaW.PrintWords Go.Proofs.YtgmkgobapeencaaW.PrintLast Go.Proofs.YtgmkgobapeencaaW.PrintMore
attribute [local go_sem] max2_int min2_int max_two min_two max_three min_three max_four min_four   -- for this text's walks alone
set_option linter.unusedVariables false
set_option linter.unusedSimpArgs false
def fanlightplain_Spoil.l0 : Nat → List Int → Int → Option (List Int)
 | 0, _, _ => none
 | k + 1, x0, x2 => if x2 < (x0.length : Int) then (if 0 ≤ x2 then (fanlightplain_Spoil.l0 k (x0.set (x2 : Int).toNat (Go.bits .xor .u8 255 (rd x0 x2))) (wrap64 (x2 + 1))) else (none)) else (some x0)
def fanlightplain_Spoil.f (k : Nat) (l0 : List Int) : Option (List Int) := fanlightplain_Spoil.l0 k l0 0
theorem fanlightplain_Spoil.mono_l : ∀ k, (∀ y0 y1, LeO (fanlightplain_Spoil.l0 k y0 y1) (fanlightplain_Spoil.l0 (k + 1) y0 y1))
 | 0 => fun _ _ r h => by simp [fanlightplain_Spoil.l0] at h
 | k + 1 => by
  have ih0 := fanlightplain_Spoil.mono_l k
  ·
   intro y0 y1
   unfold fanlightplain_Spoil.l0
   repeat' first
   | (with_reducible exact ih0 _ _)
   | with_reducible first | exact LeO.refl _ | exact LeO.none _ | refine LeO.ite ?_ ?_ | refine LeO.bind ?_ fun _ => ?_
theorem fanlightplain_Spoil.mono : ∀ a0 k, LeO (fanlightplain_Spoil.f k a0) (fanlightplain_Spoil.f (k + 1) a0) := by
 intro a0 k
 have ih0 := fanlightplain_Spoil.mono_l k
 unfold fanlightplain_Spoil.f
 repeat' first
   | (with_reducible exact ih0 _ _)
   | with_reducible first | exact LeO.refl _ | exact LeO.none _ | refine LeO.ite ?_ ?_ | refine LeO.bind ?_ fun _ => ?_
theorem fanlightplain_Spoil.calls (k : Nat) (P0_ : Nat → Prop) (u9000_ : Value) (l0 : List Int) (r : List Int) (w0 w : World) (hB : Below w0.heap.size w0 w) (ho0 : Kd.R (Kd.int .u8) 5 w w0.heap.size P0_ u9000_ l0) (h : fanlightplain_Spoil.f k l0 = some r) :
  Calls Try.prog 13 #[u9000_] w fun e w' => e = .returned (.tuple #[]) ∧ Kd.R (Kd.int .u8) 5 w' w0.heap.size (fun k_ => (P0_ k_ ∨ w.heap.size ≤ k_)) u9000_ r ∧ Below w0.heap.size w0 w' ∧ Kept w w' (fun k_ => P0_ k_) := by
 have HO0 := c' (show Kd.R (Kd.int .u8) 5 w w0.heap.size (fun k_ => (P0_ k_ ∨ w.heap.size ≤ k_)) u9000_ l0 from Kd.R_mono ho0 (fun k_ hk => (.inl hk)))
 have HK := c' (Kept.refl w (fun k_ => P0_ k_))
 have HW0 := c' hB.size
 have HB := c' hB
 clear hB
 have H : (fanlightplain_Spoil.l0 k l0 0) = some r := h
 clear h
 have H' := c' H
 clear H
 go_enter Try.func13, Try.ntmps13
 go_wp2
 go_loopg [2] k (fun kq v2 w' => ∃ (x0_1 : List Int) (x2_1 : Int), v2 = .int .i64 x2_1 ∧ Aside0 (fanlightplain_Spoil.l0 kq x0_1 x2_1 = some r) ∧ Aside0 (kq ≤ k) ∧ Aside0 (Kd.R (Kd.int .u8) 5 w' w0.heap.size (fun k_ => (P0_ k_ ∨ w.heap.size ≤ k_)) u9000_ x0_1) ∧ Aside0 (Kept w w' (fun k_ => P0_ k_)) ∧ Aside0 (Below w0.heap.size w0 w'))
 case atStart => exact ⟨(l0), (0), rS, H', ⟨Nat.le_refl _⟩, ⟨Kd.eR HO0⟩, ⟨by repeat (first | (with_reducible first | exact HK.out | apply Kept.alloc | apply Kept.drewN | apply Kept.drew) | exact HK.out)⟩, ⟨eH HB⟩⟩
 case round =>
  clear H'
  try clear c1
  obtain ⟨x0_1, x2_1, rfl, HA, HK1, HO_0, HK, HB⟩ := hrel
  cases gk with
  | zero => exact absurd HA.out (by simp [fanlightplain_Spoil.l0])
  | succ k1 =>
   have H := HA.out
   clear HA
   simp only [fanlightplain_Spoil.l0] at H
   by_cases c2 : x2_1 < (x0_1.length : Int)
   ·
    rw [if_pos c2] at H
    have c2b0 := decide_eq_true c2
    clear c2
    by_cases c3 : 0 ≤ x2_1
    ·
     rw [if_pos c3] at H
     have c3b0 := decide_eq_true c3
     clear c3
     obtain ⟨y410, hy410⟩ : ∃ y_ : List Int, y_ = (x0_1.set (x2_1 : Int).toNat (Go.bits .xor .u8 255 (rd x0_1 x2_1))) := ⟨_, rfl⟩
     replace H : (fanlightplain_Spoil.l0 k1 y410 (wrap64 (x2_1 + 1))) = some r := by rw [hy410]; exact H
     have Ny410 := c' hy410
     clear hy410
     have H' := c' H
     clear H
     obtain ⟨Ao5, co5, eo5⟩ := Kd.R_slice HO_0.out
     subst eo5
     have p409 : 0 ≤ (x2_1 : Int) := oD
     have q409 : x2_1 < (x0_1.length : Int) := oD
     obtain ⟨ad409, e409, hx409_0⟩ := Kd.at_int (Kd.R_reads' HO_0.out).2.2 x2_1 p409 q409
     cases e409
     replace p409 := eq_true p409
     replace q409 := eq_true q409
     have p4 : 0 ≤ (x2_1 : Int) := oD
     have q4 : (x2_1 : Int) < ((x0_1.length : Int) : Int) := oD
     obtain ⟨go4, co4, eo4, gb4, gl4, cl4, HG4⟩ := Kd.R_form HO_0.out (by omega)
     (first | cases eo4 | (injection eo4 with ea_ en_ ec_; (first | subst ea_ | (injection ea_ with ea_; subst ea_)); subst ec_; clear en_))
     have GB4 := c' gb4
     have GG4 := c' HG4
     clear gb4 gl4 HG4
     have HMgo4 := c' (show (P0_ go4 ∨ w.heap.size ≤ go4) from (HO_0.out.1 _ rfl))
     (first | simp only [add_plain] at hx409_0 | skip)
     obtain ⟨hx4_0, hf4_0⟩ := Kd.R_celln 0 HO_0.out (x2_1 : Int) p4 q4
     replace p4 := eq_true p4
     replace q4 := eq_true q4
     have HP6 := Kd.R_putg HO_0.out (x2_1 : Int) (Go.bits .xor .u8 255 (rd x0_1 x2_1))
     go_wp2_with (first | ((with_reducible refine gate_store (t := 5) (p := 16) rfl ?_); refine store_event (t := 5) (p := 16) (v := ?vo_w7) (w1 := (wr.setCell ⟨go4, (x2_1 : Int).toNat, none⟩ (.int .u8 (Go.bits .xor .u8 255 (rd x0_1 x2_1))))) ?hg ?ho ?hn ?hr ?_; (case ho => rfl); (case hg => rfl); (case hn => rfl); (case hr => go_simp <;> rfl); intro w7 hw; have hg : wr.grownBy w7 (some go4) := (by rw [hw]; exact HP6.2); have hp_ : Kd.R (Kd.int .u8) 5 w7 w0.heap.size (fun k_ => (P0_ k_ ∨ w.heap.size ≤ k_)) (.slice (some ⟨go4, 0, none⟩) x0_1.length co5) y410 := (by rw [hw, Ny410.out]; exact HP6.1); clear HP6; have n0_ := c' (hp_); have n1_ := c' ((by rw [hw]; exact below_set (HB.out) GB4.out : Below w0.heap.size w0 w7)); have n2_ := c' (Kept.of_grown (S := (fun k_ => P0_ k_)) hg (by repeat (first | (with_reducible first | exact HK.out | apply Kept.alloc | apply Kept.drewN | apply Kept.drew) | exact HK.out)) (fun k_ e_ => (HO_0.out.1 k_ e_))); clear HO_0; clear HB; clear HK; have HO_0 := n0_; have HB := n1_; have HK := n2_; clear n0_ n1_ n2_; clear hg hw hp_))
     go_roundg k1
     case measure => have := HK1.out; omega
     case rel => exact ⟨(y410), (wrap64 (x2_1 + 1)), rS, H', ⟨by have := HK1.out; omega⟩, ⟨Kd.eR HO_0⟩, ⟨by repeat (first | (with_reducible first | exact HK.out | apply Kept.alloc | apply Kept.drewN | apply Kept.drew) | exact HK.out)⟩, ⟨eH HB⟩⟩
    ·
     rw [if_neg c3] at H
     exact absurd H (by simp)
   ·
    rw [if_neg c2] at H
    have c2b0 := decide_eq_false c2
    clear c2
    obtain rfl := Option.some.inj H
    obtain ⟨Ao8, co8, eo8⟩ := Kd.R_slice HO_0.out
    subst eo8
    go_wp2
    first | go_end0 | ((try simp only [Exit.inBlock, Exit.then]); refine bodyPost_ret (results_none rfl _ _ _) rfl ?_)
    exact ⟨eE, Kd.eR HO_0, eH HB, by repeat (first | (with_reducible first | exact HK.out | apply Kept.alloc | apply Kept.drewN | apply Kept.drew) | exact HK.out)⟩
def fanlightplain_SameBytes.f (l0 : List Int) (l1 : List Int) : Option (Bool) := some ((strOfNums l0).toList == (strOfNums l1).toList)
theorem fanlightplain_SameBytes.calls (A0 : Option Addr) (c0 : Nat) (l0 : List Int) (A1 : Option Addr) (c1 : Nat) (l1 : List Int) (r : Bool) (w : World) (hr0 : Kd.C (Kd.int .u8) w A0 l0.length l0) (hc0 : l0.length ≤ c0) (hr1 : Kd.C (Kd.int .u8) w A1 l1.length l1) (hc1 : l1.length ≤ c1) (h : fanlightplain_SameBytes.f l0 l1 = some r) :
  Calls Try.prog 23 #[.slice A0 l0.length c0, .slice A1 l1.length c1] w fun e w' => e = .returned (.bool r) ∧ Drawn0 w w' := by
 have HR0 := c' hr0
 have HC0 := c' hc0
 clear hr0 hc0
 have HR1 := c' hr1
 have HC1 := c' hc1
 clear hr1 hc1
 have H : (some ((strOfNums l0).toList == (strOfNums l1).toList)) = some r := h
 clear h
 obtain rfl := Option.some.inj H
 have hcv3 := Kd.C_string (P := Try.prog) (A := A0) (c := c0) Try.underlying25 Try.underlying5 Try.underlying9 HR0.out
 have hcv4 := Kd.C_string (P := Try.prog) (A := A1) (c := c1) Try.underlying25 Try.underlying5 Try.underlying9 HR1.out
 go_enter Try.func23, Try.ntmps23
 go_wp2
 go_ret
 exact ⟨by first | rfl | (simp; done) | (simp [*]; done), by repeat (first | exact Drawn0.refl _ | apply Drawn0.step)⟩
mutual
def fanlightlaw06_Alike.j0 : Nat → Bool → List (List Int) → Int → List (List Int) → Int → Option (Int)
 | 0, _, _, _, _, _ => none
 | k + 1, x19, x412000, x412001, x413000, x413001 => if x19 = true then (some 1) else (fanlightlaw06_Alike.l0 k 0 x412000 x412001 x413000 x413001)
def fanlightlaw06_Alike.l0 : Nat → Int → List (List Int) → Int → List (List Int) → Int → Option (Int)
 | 0, _, _, _, _, _ => none
 | k + 1, x5, x412000, x412001, x413000, x413001 => if x5 < (x412000.length : Int) then (if 0 ≤ x5 then (if x5 < (x413000.length : Int) then ((fanlightplain_SameBytes.f (rd_L1 x412000 x5) (rd_L1 x413000 x5)).bind fun t415 => (if t415 = true then (fanlightlaw06_Alike.l0 k (wrap64 (x5 + 1)) x412000 x412001 x413000 x413001) else (some 1))) else (none)) else (none)) else (some 0)
end
def fanlightlaw06_Alike.f (k : Nat) (l0_0 : List (List Int)) (a0_1 : Int) (l1_0 : List (List Int)) (a1_1 : Int) : Option (Int) := if a0_1 = a1_1 then (fanlightlaw06_Alike.j0 k ((l0_0.length : Int) != (l1_0.length : Int)) l0_0 a0_1 l1_0 a1_1) else (fanlightlaw06_Alike.j0 k true l0_0 a0_1 l1_0 a1_1)
theorem fanlightlaw06_Alike.mono_l : ∀ k, (∀ y0 y1 y2 y3 y4, LeO (fanlightlaw06_Alike.j0 k y0 y1 y2 y3 y4) (fanlightlaw06_Alike.j0 (k + 1) y0 y1 y2 y3 y4)) ∧ (∀ y0 y1 y2 y3 y4, LeO (fanlightlaw06_Alike.l0 k y0 y1 y2 y3 y4) (fanlightlaw06_Alike.l0 (k + 1) y0 y1 y2 y3 y4))
 | 0 => ⟨fun _ _ _ _ _ r h => by simp [fanlightlaw06_Alike.j0] at h, fun _ _ _ _ _ r h => by simp [fanlightlaw06_Alike.l0] at h⟩
 | k + 1 => by
  obtain ⟨ih0, ih1⟩ := fanlightlaw06_Alike.mono_l k
  refine ⟨?_, ?_⟩
  ·
   intro y0 y1 y2 y3 y4
   unfold fanlightlaw06_Alike.j0
   repeat' first
   | (with_reducible exact ih0 _ _ _ _ _)
   | (with_reducible exact ih1 _ _ _ _ _)
   | with_reducible first | exact LeO.refl _ | exact LeO.none _ | refine LeO.ite ?_ ?_ | refine LeO.bind ?_ fun _ => ?_
  ·
   intro y0 y1 y2 y3 y4
   unfold fanlightlaw06_Alike.l0
   repeat' first
   | (with_reducible exact ih0 _ _ _ _ _)
   | (with_reducible exact ih1 _ _ _ _ _)
   | with_reducible first | exact LeO.refl _ | exact LeO.none _ | refine LeO.ite ?_ ?_ | refine LeO.bind ?_ fun _ => ?_
theorem fanlightlaw06_Alike.mono : ∀ a0 a1 a2 a3 k, LeO (fanlightlaw06_Alike.f k a0 a1 a2 a3) (fanlightlaw06_Alike.f (k + 1) a0 a1 a2 a3) := by
 intro a0 a1 a2 a3 k
 obtain ⟨ih0, ih1⟩ := fanlightlaw06_Alike.mono_l k
 unfold fanlightlaw06_Alike.f
 repeat' first
   | (with_reducible exact ih0 _ _ _ _ _)
   | (with_reducible exact ih1 _ _ _ _ _)
   | with_reducible first | exact LeO.refl _ | exact LeO.none _ | refine LeO.ite ?_ ?_ | refine LeO.bind ?_ fun _ => ?_
theorem fanlightlaw06_Alike.calls (k : Nat) (A0_0 : Option Addr) (c0_0 : Nat) (l0_0 : List (List Int)) (a0_1 : Int) (A1_0 : Option Addr) (c1_0 : Nat) (l1_0 : List (List Int)) (a1_1 : Int) (r : Int) (w : World) (hr0_0 : Kd.C (Kd.slice 5 (Kd.int .u8)) w A0_0 l0_0.length l0_0) (hc0_0 : l0_0.length ≤ c0_0) (hr1_0 : Kd.C (Kd.slice 5 (Kd.int .u8)) w A1_0 l1_0.length l1_0) (hc1_0 : l1_0.length ≤ c1_0) (h : fanlightlaw06_Alike.f k l0_0 a0_1 l1_0 a1_1 = some r) :
  Calls Try.prog 15 #[.agg #[.slice A0_0 l0_0.length c0_0, .int .i64 a0_1], .agg #[.slice A1_0 l1_0.length c1_0, .int .i64 a1_1]] w fun e w' => e = .returned (.int .i64 r) ∧ Below w.heap.size w w' := by
 have hu27 := Try.underlying27
 have hu24 := Try.underlying24
 have HR0_0 := c' hr0_0
 have HC0_0 := c' hc0_0
 clear hr0_0 hc0_0
 have HR1_0 := c' hr1_0
 have HC1_0 := c' hc1_0
 clear hr1_0 hc1_0
 have HB := c' (Below.refl w.heap.size w)
 have H : (if a0_1 = a1_1 then (fanlightlaw06_Alike.j0 k ((l0_0.length : Int) != (l1_0.length : Int)) l0_0 a0_1 l1_0 a1_1) else (fanlightlaw06_Alike.j0 k true l0_0 a0_1 l1_0 a1_1)) = some r := h
 clear h
 have HC3 := c' H
 clear H
 go_enter Try.func15, Try.ntmps15
 go_upto_region 1 with (first | ((with_reducible refine gate_dst (N := 2) rfl ?_); (try (refine gate_guard (by rfl) ?_; dsimp only)); refine box_event ?hg (N := 2) ?hd (cs := #[.slice A0_0 l0_0.length c0_0, .int .i64 a0_1]) (t := 27) ?hr ?_; (case hd => rfl); (case hg => rfl); (case hr => go_simp <;> rfl); intro gb411 hg w4 hbox hb; have n0_ := c' (below_step (eH HB) hb); have n1_ := c' (hbox); have n2_ := c' ((by rw [hg]; exact (below_size (eH HB)) : w.heap.size ≤ gb411)); have n3_ := c' ((by rw [hg]; exact (below_size (eH HB)) : w.heap.size ≤ gb411)); clear HB; have HB := n0_; have BK411 := n1_; have GW411 := n2_; have GE411 := n3_; clear n0_ n1_ n2_ n3_; clear hb hbox hg) | ((with_reducible refine gate_dst (N := 3) rfl ?_); (try (refine gate_guard (by rfl) ?_; dsimp only)); refine box_event ?hg (N := 3) ?hd (cs := #[.slice A1_0 l1_0.length c1_0, .int .i64 a1_1]) (t := 24) ?hr ?_; (case hd => rfl); (case hg => rfl); (case hr => go_simp <;> rfl); intro gb412 hg w5 hbox hb; have n0_ := bB BK411 hb; have n1_ := c' (below_step (eH HB) hb); have n2_ := c' (hbox); have n3_ := c' ((by rw [hg]; exact (below_size (eH HB)) : w.heap.size ≤ gb412)); have n4_ := c' ((by rw [hg]; exact (below_size (eH HB)) : w.heap.size ≤ gb412)); have n5_ := nL hg BK411; have n6_ := nG hg BK411; clear BK411; clear HB; have BK411 := n0_; have HB := n1_; have BK412 := n2_; have GW412 := n3_; have GE412 := n4_; have NB411_412 := n5_; have NB412_411 := n6_; clear n0_ n1_ n2_ n3_ n4_ n5_ n6_; clear hb hbox hg))
 skip
 (try simp only [Act.put, List.setIfInBounds_toArray, List.set_cons_zero, List.set_cons_succ])
 go_cut [19] (fun v19 wc => ∃ (kq : Nat) (x19_2 : Bool), v19 = .bool x19_2 ∧ Aside0 (fanlightlaw06_Alike.j0 kq x19_2 l0_0 a0_1 l1_0 a1_1 = some r) ∧ Aside0 (kq ≤ k) ∧ Aside0 (wc.heap[gb411]? = some (.cells #[(.slice A0_0 l0_0.length c0_0), .int .i64 a0_1] 27 (0, 0))) ∧ Aside0 (wc.heap[gb412]? = some (.cells #[(.slice A1_0 l1_0.length c1_0), .int .i64 a1_1] 24 (0, 0))) ∧ Aside0 (Below w.heap.size w wc))
 case first =>
  have H := HC3.out
  clear HC3
  by_cases c6 : a0_1 = a1_1
  ·
   rw [if_pos c6] at H
   have c6b0 := beq_iff_eq.mpr c6
   have c6b1 := bne_eq_false_iff_eq.mpr c6
   clear c6
   (first | rw [c6b0] | (simp only [i64_w, i32_w]; rw [c6b0]) | rw [c6b1] | skip)
   have H' := c' H
   clear H
   have hnb7 := NB411_412.out
   have hnc7 := NB412_411.out
   have hcz8_0 := bC BK411 0 (.slice A0_0 l0_0.length c0_0)
   have hcz8_1 := bC BK411 1 (.int .i64 a0_1)
   have hfz8_0 := b' BK411.out 0
   have hfz8_1 := b' BK411.out 1
   have hcz9_0 := bC BK412 0 (.slice A1_0 l1_0.length c1_0)
   have hcz9_1 := bC BK412 1 (.int .i64 a1_1)
   have hfz9_0 := b' BK412.out 0
   have hfz9_1 := b' BK412.out 1
   go_wp2
   repeat (go_quiet (fail); try go_wp2)
   go_meet
   case rel => exact ⟨_, (((l0_0.length : Int) != (l1_0.length : Int))), rS, H', ⟨by first | omega | exact Nat.le_refl _⟩, ⟨eB BK411⟩, ⟨eB BK412⟩, ⟨eH HB⟩⟩
  ·
   rw [if_neg c6] at H
   have c6b0 := beq_eq_false_iff_ne.mpr c6
   have c6b1 := bne_iff_ne.mpr c6
   (first | rw [c6b0] | (simp only [i64_w, i32_w]; rw [c6b0]) | rw [c6b1] | skip)
   have H' := c' H
   clear H
   have hnb10 := NB411_412.out
   have hnc10 := NB412_411.out
   have hcz11_0 := bC BK411 0 (.slice A0_0 l0_0.length c0_0)
   have hcz11_1 := bC BK411 1 (.int .i64 a0_1)
   have hfz11_0 := b' BK411.out 0
   have hfz11_1 := b' BK411.out 1
   have hcz12_0 := bC BK412 0 (.slice A1_0 l1_0.length c1_0)
   have hcz12_1 := bC BK412 1 (.int .i64 a1_1)
   have hfz12_0 := b' BK412.out 0
   have hfz12_1 := b' BK412.out 1
   go_wp2
   repeat (go_quiet (fail); try go_wp2)
   go_meet
   case rel => exact ⟨_, (true), rS, H', ⟨by first | omega | exact Nat.le_refl _⟩, ⟨eB BK411⟩, ⟨eB BK412⟩, ⟨eH HB⟩⟩
 case rest =>
  clear HC3
  try clear c1
  try clear p2
  try clear c6
  try clear c6b0
  try clear c6b1
  try clear c7
  try clear c10
  try clear hcz11_0
  try clear hcz11_1
  try clear hcz12_0
  try clear hcz12_1
  try clear hcz8_0
  try clear hcz8_1
  try clear hcz9_0
  try clear hcz9_1
  try clear hfz11_0
  try clear hfz11_1
  try clear hfz12_0
  try clear hfz12_1
  try clear hfz8_0
  try clear hfz8_1
  try clear hfz9_0
  try clear hfz9_1
  obtain ⟨kq, x19_2, rfl, HA, HJ2, BK411, BK412, HB⟩ := hcut
  cases kq with
  | zero => exact absurd HA.out (by simp [fanlightlaw06_Alike.j0])
  | succ kj2 =>
   have H := HA.out
   clear HA
   simp only [fanlightlaw06_Alike.j0] at H
   by_cases c13 : x19_2 = true
   ·
    subst c13
    have H1 : (some 1) = some r := by rw [if_pos rfl] at H; exact H
    clear H
    have H := H1
    clear H1
    obtain rfl := Option.some.inj H
    go_wp2
    repeat (go_quiet (fail); try go_wp2)
    go_ret
    exact ⟨eE, eH HB⟩
   ·
    replace c13 := Bool.eq_false_iff.mpr c13
    subst c13
    have H1 : (fanlightlaw06_Alike.l0 kj2 0 l0_0 a0_1 l1_0 a1_1) = some r := by rw [if_neg (show ¬ (false = true) by decide)] at H; exact H
    clear H
    have H := H1
    clear H1
    have H' := c' H
    clear H
    go_wp2
    repeat (go_quiet (fail); try go_wp2)
    go_loopg [5] kj2 (fun kq v5 w' => ∃ (x5_2 : Int), v5 = .int .i64 x5_2 ∧ Aside0 (fanlightlaw06_Alike.l0 kq x5_2 l0_0 a0_1 l1_0 a1_1 = some r) ∧ Aside0 (kq ≤ kj2) ∧ Aside0 (w'.heap[gb411]? = some (.cells #[(.slice A0_0 l0_0.length c0_0), .int .i64 a0_1] 27 (0, 0))) ∧ Aside0 (w'.heap[gb412]? = some (.cells #[(.slice A1_0 l1_0.length c1_0), .int .i64 a1_1] 24 (0, 0))) ∧ Aside0 (Below w.heap.size w w'))
    case atStart => exact ⟨(0), rS, H', ⟨Nat.le_refl _⟩, ⟨eB BK411⟩, ⟨eB BK412⟩, ⟨eH HB⟩⟩
    case round =>
     clear H'
     try clear c1
     try clear p2
     try clear c6
     try clear c6b0
     try clear c6b1
     try clear c7
     try clear c10
     try clear c13
     try clear hcz11_0
     try clear hcz11_1
     try clear hcz12_0
     try clear hcz12_1
     try clear hcz8_0
     try clear hcz8_1
     try clear hcz9_0
     try clear hcz9_1
     try clear hfz11_0
     try clear hfz11_1
     try clear hfz12_0
     try clear hfz12_1
     try clear hfz8_0
     try clear hfz8_1
     try clear hfz9_0
     try clear hfz9_1
     try clear p2
     obtain ⟨x5_2, rfl, HA, HK2, BK411, BK412, HB⟩ := hrel
     cases gk with
     | zero => exact absurd HA.out (by simp [fanlightlaw06_Alike.l0])
     | succ k2 =>
      have H := HA.out
      clear HA
      simp only [fanlightlaw06_Alike.l0] at H
      by_cases c14 : x5_2 < (l0_0.length : Int)
      ·
       rw [if_pos c14] at H
       have c14b0 := decide_eq_true c14
       clear c14
       by_cases c15 : 0 ≤ x5_2
       ·
        rw [if_pos c15] at H
        have c15b0 := decide_eq_true c15
        clear c15
        by_cases c16 : x5_2 < (l1_0.length : Int)
        ·
         rw [if_pos c16] at H
         have c16b0 := decide_eq_true c16
         clear c16
         replace H := Option.bind_eq_some_iff.mp H
         obtain ⟨t415, A170, H⟩ := H
         (try dsimp only at H)
         have A17 := c' A170
         clear A170
         by_cases c18 : t415 = true
         ·
          subst c18
          have H1 : (fanlightlaw06_Alike.l0 k2 (wrap64 (x5_2 + 1)) l0_0 a0_1 l1_0 a1_1) = some r := by rw [if_pos rfl] at H; exact H
          clear H
          have H := H1
          clear H1
          have H' := c' H
          clear H
          have hnb19 := NB411_412.out
          have hnc19 := NB412_411.out
          have hcz20_0 := bC BK411 0 (.slice A0_0 l0_0.length c0_0)
          have hcz20_1 := bC BK411 1 (.int .i64 a0_1)
          have hfz20_0 := b' BK411.out 0
          have hfz20_1 := b' BK411.out 1
          have p413 : 0 ≤ (x5_2 : Int) := oD
          have q413 : x5_2 < (l0_0.length : Int) := oD
          obtain ⟨ad413, A413_0, c413_0, e413, hx413_0, hl413_0, hi413_0⟩ := at_L1 HR0_0.out x5_2 p413 q413
          cases e413
          replace hx413_0 := (HB.out.cell (World.block_lt_of_cell? w _ hx413_0)).trans hx413_0
          have HR413_0 := c' hi413_0
          have HC413_0 := c' hl413_0
          clear hi413_0 hl413_0
          replace p413 := eq_true p413
          replace q413 := eq_true q413
          have hcz21_0 := bC BK412 0 (.slice A1_0 l1_0.length c1_0)
          have hcz21_1 := bC BK412 1 (.int .i64 a1_1)
          have hfz21_0 := b' BK412.out 0
          have hfz21_1 := b' BK412.out 1
          have p414 : 0 ≤ (x5_2 : Int) := oD
          have q414 : x5_2 < (l1_0.length : Int) := oD
          obtain ⟨ad414, A414_0, c414_0, e414, hx414_0, hl414_0, hi414_0⟩ := at_L1 HR1_0.out x5_2 p414 q414
          cases e414
          replace hx414_0 := (HB.out.cell (World.block_lt_of_cell? w _ hx414_0)).trans hx414_0
          have HR414_0 := c' hi414_0
          have HC414_0 := c' hl414_0
          clear hi414_0 hl414_0
          replace p414 := eq_true p414
          replace q414 := eq_true q414
          go_wp2_with (first | (go_at_call 23; (with_reducible refine (fanlightplain_SameBytes.calls _ _ (rd_L1 l0_0 x5_2) _ _ (rd_L1 l1_0 x5_2) true _ ?side1 ?side2 ?side3 ?side4 A17.out).mono ?_); (case side1 => exact Kd.eC HR413_0 HB); (case side2 => exact HC413_0.out); (case side3 => exact Kd.eC HR414_0 HB); (case side4 => exact HC414_0.out); rintro e w' ⟨rfl, ⟨nd, rfl⟩⟩; (try first | exact ⟨rfl, _, World.drewN_drewN _ _ _⟩ | exact ⟨rfl, _, Eq.trans (World.drewN_drewN _ _ _) (congrArg (World.drewN _) (Nat.add_assoc _ _ _))⟩)))
          repeat (go_quiet (first | (go_at_call 23; (with_reducible refine (fanlightplain_SameBytes.calls _ _ (rd_L1 l0_0 x5_2) _ _ (rd_L1 l1_0 x5_2) true _ ?side1 ?side2 ?side3 ?side4 A17.out).mono ?_); (case side1 => repeat (first | exact (Kd.C_below HR413_0.out HB.out) | (with_reducible refine Kd.C_alloc ?_ _) | (with_reducible refine Kd.C_drewN ?_ _) | (with_reducible refine Kd.C_drew ?_))); (case side2 => exact HC413_0.out); (case side3 => repeat (first | exact (Kd.C_below HR414_0.out HB.out) | (with_reducible refine Kd.C_alloc ?_ _) | (with_reducible refine Kd.C_drewN ?_ _) | (with_reducible refine Kd.C_drew ?_))); (case side4 => exact HC414_0.out); rintro e w' ⟨rfl, ⟨nd, rfl⟩⟩; (try first | exact ⟨rfl, _, World.drewN_drewN _ _ _⟩ | exact ⟨rfl, _, Eq.trans (World.drewN_drewN _ _ _) (congrArg (World.drewN _) (Nat.add_assoc _ _ _))⟩))); try go_wp2_with (first | (go_at_call 23; (with_reducible refine (fanlightplain_SameBytes.calls _ _ (rd_L1 l0_0 x5_2) _ _ (rd_L1 l1_0 x5_2) true _ ?side1 ?side2 ?side3 ?side4 A17.out).mono ?_); (case side1 => repeat (first | exact (Kd.C_below HR413_0.out HB.out) | (with_reducible refine Kd.C_alloc ?_ _) | (with_reducible refine Kd.C_drewN ?_ _) | (with_reducible refine Kd.C_drew ?_))); (case side2 => exact HC413_0.out); (case side3 => repeat (first | exact (Kd.C_below HR414_0.out HB.out) | (with_reducible refine Kd.C_alloc ?_ _) | (with_reducible refine Kd.C_drewN ?_ _) | (with_reducible refine Kd.C_drew ?_))); (case side4 => exact HC414_0.out); rintro e w' ⟨rfl, ⟨nd, rfl⟩⟩; (try first | exact ⟨rfl, _, World.drewN_drewN _ _ _⟩ | exact ⟨rfl, _, Eq.trans (World.drewN_drewN _ _ _) (congrArg (World.drewN _) (Nat.add_assoc _ _ _))⟩))))
          go_roundg k2
          case measure => have := HJ2.out; have := HK2.out; omega
          case rel => exact ⟨(wrap64 (x5_2 + 1)), rS, H', ⟨by have := HJ2.out; have := HK2.out; omega⟩, ⟨eB BK411⟩, ⟨eB BK412⟩, ⟨eH HB⟩⟩
         ·
          replace c18 := Bool.eq_false_iff.mpr c18
          subst c18
          have H1 : (some 1) = some r := by rw [if_neg (show ¬ (false = true) by decide)] at H; exact H
          clear H
          have H := H1
          clear H1
          obtain rfl := Option.some.inj H
          have hnb22 := NB411_412.out
          have hnc22 := NB412_411.out
          have hcz23_0 := bC BK411 0 (.slice A0_0 l0_0.length c0_0)
          have hcz23_1 := bC BK411 1 (.int .i64 a0_1)
          have hfz23_0 := b' BK411.out 0
          have hfz23_1 := b' BK411.out 1
          have p413 : 0 ≤ (x5_2 : Int) := oD
          have q413 : x5_2 < (l0_0.length : Int) := oD
          obtain ⟨ad413, A413_0, c413_0, e413, hx413_0, hl413_0, hi413_0⟩ := at_L1 HR0_0.out x5_2 p413 q413
          cases e413
          replace hx413_0 := (HB.out.cell (World.block_lt_of_cell? w _ hx413_0)).trans hx413_0
          have HR413_0 := c' hi413_0
          have HC413_0 := c' hl413_0
          clear hi413_0 hl413_0
          replace p413 := eq_true p413
          replace q413 := eq_true q413
          have hcz24_0 := bC BK412 0 (.slice A1_0 l1_0.length c1_0)
          have hcz24_1 := bC BK412 1 (.int .i64 a1_1)
          have hfz24_0 := b' BK412.out 0
          have hfz24_1 := b' BK412.out 1
          have p414 : 0 ≤ (x5_2 : Int) := oD
          have q414 : x5_2 < (l1_0.length : Int) := oD
          obtain ⟨ad414, A414_0, c414_0, e414, hx414_0, hl414_0, hi414_0⟩ := at_L1 HR1_0.out x5_2 p414 q414
          cases e414
          replace hx414_0 := (HB.out.cell (World.block_lt_of_cell? w _ hx414_0)).trans hx414_0
          have HR414_0 := c' hi414_0
          have HC414_0 := c' hl414_0
          clear hi414_0 hl414_0
          replace p414 := eq_true p414
          replace q414 := eq_true q414
          go_wp2_with (first | (go_at_call 23; (with_reducible refine (fanlightplain_SameBytes.calls _ _ (rd_L1 l0_0 x5_2) _ _ (rd_L1 l1_0 x5_2) false _ ?side1 ?side2 ?side3 ?side4 A17.out).mono ?_); (case side1 => exact Kd.eC HR413_0 HB); (case side2 => exact HC413_0.out); (case side3 => exact Kd.eC HR414_0 HB); (case side4 => exact HC414_0.out); rintro e w' ⟨rfl, ⟨nd, rfl⟩⟩; (try first | exact ⟨rfl, _, World.drewN_drewN _ _ _⟩ | exact ⟨rfl, _, Eq.trans (World.drewN_drewN _ _ _) (congrArg (World.drewN _) (Nat.add_assoc _ _ _))⟩)))
          repeat (go_quiet (first | (go_at_call 23; (with_reducible refine (fanlightplain_SameBytes.calls _ _ (rd_L1 l0_0 x5_2) _ _ (rd_L1 l1_0 x5_2) false _ ?side1 ?side2 ?side3 ?side4 A17.out).mono ?_); (case side1 => repeat (first | exact (Kd.C_below HR413_0.out HB.out) | (with_reducible refine Kd.C_alloc ?_ _) | (with_reducible refine Kd.C_drewN ?_ _) | (with_reducible refine Kd.C_drew ?_))); (case side2 => exact HC413_0.out); (case side3 => repeat (first | exact (Kd.C_below HR414_0.out HB.out) | (with_reducible refine Kd.C_alloc ?_ _) | (with_reducible refine Kd.C_drewN ?_ _) | (with_reducible refine Kd.C_drew ?_))); (case side4 => exact HC414_0.out); rintro e w' ⟨rfl, ⟨nd, rfl⟩⟩; (try first | exact ⟨rfl, _, World.drewN_drewN _ _ _⟩ | exact ⟨rfl, _, Eq.trans (World.drewN_drewN _ _ _) (congrArg (World.drewN _) (Nat.add_assoc _ _ _))⟩))); try go_wp2_with (first | (go_at_call 23; (with_reducible refine (fanlightplain_SameBytes.calls _ _ (rd_L1 l0_0 x5_2) _ _ (rd_L1 l1_0 x5_2) false _ ?side1 ?side2 ?side3 ?side4 A17.out).mono ?_); (case side1 => repeat (first | exact (Kd.C_below HR413_0.out HB.out) | (with_reducible refine Kd.C_alloc ?_ _) | (with_reducible refine Kd.C_drewN ?_ _) | (with_reducible refine Kd.C_drew ?_))); (case side2 => exact HC413_0.out); (case side3 => repeat (first | exact (Kd.C_below HR414_0.out HB.out) | (with_reducible refine Kd.C_alloc ?_ _) | (with_reducible refine Kd.C_drewN ?_ _) | (with_reducible refine Kd.C_drew ?_))); (case side4 => exact HC414_0.out); rintro e w' ⟨rfl, ⟨nd, rfl⟩⟩; (try first | exact ⟨rfl, _, World.drewN_drewN _ _ _⟩ | exact ⟨rfl, _, Eq.trans (World.drewN_drewN _ _ _) (congrArg (World.drewN _) (Nat.add_assoc _ _ _))⟩))))
          go_ret
          exact ⟨eE, eH HB⟩
        ·
         rw [if_neg c16] at H
         exact absurd H (by simp)
       ·
        rw [if_neg c15] at H
        exact absurd H (by simp)
      ·
       rw [if_neg c14] at H
       have c14b0 := decide_eq_false c14
       clear c14
       obtain rfl := Option.some.inj H
       have hnb25 := NB411_412.out
       have hnc25 := NB412_411.out
       have hcz26_0 := bC BK411 0 (.slice A0_0 l0_0.length c0_0)
       have hcz26_1 := bC BK411 1 (.int .i64 a0_1)
       have hfz26_0 := b' BK411.out 0
       have hfz26_1 := b' BK411.out 1
       go_wp2
       repeat (go_quiet (fail); try go_wp2)
       go_ret
       exact ⟨eE, eH HB⟩
def fanlightref06_Records.l0 : Nat → List (S57) → Int → List (List Int) → Int → Option ((List (S57)) × Int)
 | 0, _, _, _, _ => none
 | k + 1, x4, x5, x443000, x443001 => if x5 < (x443000.length : Int) then (if 0 ≤ x5 then ((fanlightref06_first.f k (rd_L1 x443000 x5)).bind fun t446 => ((fanlightref06_Scan.f k (rd_L1 x443000 x5) t446).bind fun bt447 => (if x4.length + bt447.1.length < 4398046511104 then (fanlightref06_Records.l0 k (x4 ++ bt447.1) (wrap64 (x5 + 1)) x443000 x443001) else (none)))) else (none)) else (some (x4, 0))
def fanlightref06_Records.f (k : Nat) (l0_0 : List (List Int)) (a0_1 : Int) : Option ((List (S57)) × Int) := (fanlightref06_Check.f k l0_0 a0_1).bind fun t443 => (if t443 = 0 then (fanlightref06_Records.l0 k ([] : List (S57)) 0 l0_0 a0_1) else (some (([] : List (S57)), 9)))
theorem fanlightref06_Records.mono_l : ∀ k, (∀ y0 y1 y2 y3, LeO (fanlightref06_Records.l0 k y0 y1 y2 y3) (fanlightref06_Records.l0 (k + 1) y0 y1 y2 y3))
 | 0 => fun _ _ _ _ r h => by simp [fanlightref06_Records.l0] at h
 | k + 1 => by
  have ih0 := fanlightref06_Records.mono_l k
  ·
   intro y0 y1 y2 y3
   unfold fanlightref06_Records.l0
   repeat' first
   | (with_reducible exact ih0 _ _ _ _)
   | (with_reducible exact fanlightref06_Check.mono _ _ _)
   | (with_reducible exact fanlightref06_Scan.mono _ _ _)
   | (with_reducible exact fanlightref06_first.mono _ _)
   | with_reducible first | exact LeO.refl _ | exact LeO.none _ | refine LeO.ite ?_ ?_ | refine LeO.bind ?_ fun _ => ?_
theorem fanlightref06_Records.mono : ∀ a0 a1 k, LeO (fanlightref06_Records.f k a0 a1) (fanlightref06_Records.f (k + 1) a0 a1) := by
 intro a0 a1 k
 have ih0 := fanlightref06_Records.mono_l k
 unfold fanlightref06_Records.f
 repeat' first
   | (with_reducible exact ih0 _ _ _ _)
   | (with_reducible exact fanlightref06_Check.mono _ _ _)
   | (with_reducible exact fanlightref06_Scan.mono _ _ _)
   | (with_reducible exact fanlightref06_first.mono _ _)
   | with_reducible first | exact LeO.refl _ | exact LeO.none _ | refine LeO.ite ?_ ?_ | refine LeO.bind ?_ fun _ => ?_
def fanlightref06_Records.T7 : Bool × List (List Nat × List Nat) := (true,[([],[]),([0],[0]),([],[]),([1,2],[1,2]),([3],[3]),([],[]),([5],[5]),([],[]),([6,7],[6,7]),([8],[8]),([9],[9]),([4,10,10],[4,10]),([11],[11]),([12],[12]),([12],[12]),([13,11,0,1,2,3,4,5,6,7,8,9,10,11,12,13],[13]),([14,15,0,1,2,3,4,5,6,7,8,9,10,11,12,13,14,15],[14])])
def fanlightref06_Records.B7 : List Nat := [0,1,0,7,15,0,32,0,224,480,992,2047,4095,8191,8191,16383,65535]
theorem fanlightref06_Records.tab7 : rtab .any (opsOf Try.f17 7) = fanlightref06_Records.T7 := by kernel_rfl
theorem fanlightref06_Records.bits7 : waitsOk fanlightref06_Records.T7.2 fanlightref06_Records.B7 = true := by kernel_rfl
theorem fanlightref06_Records.calls (k : Nat) (A0_0 : Option Addr) (c0_0 : Nat) (l0_0 : List (List Int)) (a0_1 : Int) (r1 : List (S57)) (r2 : Int) (w : World) (hr0_0 : Kd.C (Kd.slice 5 (Kd.int .u8)) w A0_0 l0_0.length l0_0) (hc0_0 : l0_0.length ≤ c0_0) (h : fanlightref06_Records.f k l0_0 a0_1 = some (r1, r2)) :
  Calls Try.prog 17 #[.agg #[.slice A0_0 l0_0.length c0_0, .int .i64 a0_1]] w fun e w' => ∃ v0_ : Value, e = .returned (.tuple #[v0_, .int .i64 r2]) ∧ Kd.N k57 57 w' w.heap.size (fun k_ => (w.heap.size ≤ k_)) v0_ r1 ∧ Below w.heap.size w w' := by
 have hu24 := Try.underlying24
 have HR0_0 := c' hr0_0
 have HC0_0 := c' hc0_0
 clear hr0_0 hc0_0
 have HB := c' (Below.refl w.heap.size w)
 have H : ((fanlightref06_Check.f k l0_0 a0_1).bind fun t443 => (if t443 = 0 then (fanlightref06_Records.l0 k ([] : List (S57)) 0 l0_0 a0_1) else (some (([] : List (S57)), 9)))) = some (r1, r2) := h
 clear h
 replace H := Option.bind_eq_some_iff.mp H
 obtain ⟨t443, A20, H⟩ := H
 (try dsimp only at H)
 have A2 := c' A20
 clear A20
 by_cases c3 : t443 = 0
 ·
  rw [if_pos c3] at H
  have c3b0 := beq_iff_eq.mpr c3
  have c3b1 := bne_eq_false_iff_eq.mpr c3
  clear c3
  have H' := c' H
  clear H
  go_enter Try.func17, Try.ntmps17
  go_wp2_with (first | ((with_reducible refine gate_dst (N := 1) rfl ?_); refine box_event ?hg (N := 1) ?hd (cs := #[.slice A0_0 l0_0.length c0_0, .int .i64 a0_1]) (t := 24) ?hr ?_; (case hd => rfl); (case hg => rfl); (case hr => go_simp <;> rfl); intro gb442 hg w4 hbox hb; have n0_ := c' (below_step (eH HB) hb); have n1_ := c' (hbox); have n2_ := c' ((by rw [hg]; exact (below_size (eH HB)) : w.heap.size ≤ gb442)); have n3_ := c' ((by rw [hg]; exact (below_size (eH HB)) : w.heap.size ≤ gb442)); clear HB; have HB := n0_; have BK442 := n1_; have GW442 := n2_; have GE442 := n3_; clear n0_ n1_ n2_ n3_; clear hb hbox hg; have hcz5_0 := bC BK442 0 (.slice A0_0 l0_0.length c0_0); have hcz5_1 := bC BK442 1 (.int .i64 a0_1); have hfz5_0 := b' BK442.out 0; have hfz5_1 := b' BK442.out 1) | ((with_reducible refine gate_callee (f := 22) rfl ?_); refine gL 9 Try.func22 #[.agg #[.slice A0_0 l0_0.length c0_0, .int .i64 a0_1]] (h := ?_); (with_reducible refine (fanlightref06_Check.calls k _ _ l0_0 a0_1 t443 _ ?side1 ?side2 A2.out).mono ?_); (case side1 => exact Kd.eC HR0_0 HB); (case side2 => exact HC0_0.out); rintro e w6 ⟨rfl, hb⟩; refine ⟨_, rfl, ?_⟩; have n0_ := bB BK442 hb; have n1_ := c' (below_step (eH HB) hb); clear BK442; clear HB; have BK442 := n0_; have HB := n1_; clear n0_ n1_; (try clear hb); (try clear hb2); (try clear hk); (try clear hi)))
  go_loopg [4, 5] k (fun kq v4 v5 w' => ∃ (x4_1 : List (S57)) (x5_1 : Int), v5 = .int .i64 x5_1 ∧ Aside0 (fanlightref06_Records.l0 kq x4_1 x5_1 l0_0 a0_1 = some (r1, r2)) ∧ Aside0 (kq ≤ k) ∧ Aside0 (Kd.N k57 57 w' w.heap.size (fun k_ => (w.heap.size ≤ k_) ∧ k_ ≠ gb442) v4 x4_1) ∧ Aside0 (w'.heap[gb442]? = some (.cells #[(.slice A0_0 l0_0.length c0_0), .int .i64 a0_1] 24 (0, 0))) ∧ Aside0 (Below w.heap.size w w'))
  case atStart => exact ⟨(([] : List (S57))), (0), rS, H', ⟨Nat.le_refl _⟩, ⟨nS⟩, ⟨eB BK442⟩, ⟨eH HB⟩⟩
  case round =>
   clear H'
   try clear c1
   try clear c2
   try clear p2
   try clear c3
   try clear c3b0
   try clear c3b1
   try clear hcz5_0
   try clear hcz5_1
   try clear hfz5_0
   try clear hfz5_1
   obtain ⟨x4_1, x5_1, rfl, HA, HK1, HO_4, BK442, HB⟩ := hrel
   cases gk with
   | zero => exact absurd HA.out (by simp [fanlightref06_Records.l0])
   | succ k1 =>
    have H := HA.out
    clear HA
    simp only [fanlightref06_Records.l0] at H
    by_cases c7 : x5_1 < (l0_0.length : Int)
    ·
     rw [if_pos c7] at H
     have c7b0 := decide_eq_true c7
     clear c7
     by_cases c8 : 0 ≤ x5_1
     ·
      rw [if_pos c8] at H
      have c8b0 := decide_eq_true c8
      clear c8
      replace H := Option.bind_eq_some_iff.mp H
      obtain ⟨t446, A90, H⟩ := H
      (try dsimp only at H)
      have A9 := c' A90
      clear A90
      replace H := Option.bind_eq_some_iff.mp H
      obtain ⟨⟨t447, t448⟩, A100, H⟩ := H
      (try dsimp only at H)
      have A10 := c' A100
      clear A100
      by_cases c11 : x4_1.length + t447.length < 4398046511104
      ·
       rw [if_pos c11] at H
       have LMc11 := c' c11
       clear c11
       obtain ⟨y451, hy451⟩ : ∃ y_ : List (S57), y_ = (x4_1 ++ t447) := ⟨_, rfl⟩
       replace H : (fanlightref06_Records.l0 k1 y451 (wrap64 (x5_1 + 1)) l0_0 a0_1) = some (r1, r2) := by rw [hy451]; exact H
       have Ny451 := c' hy451
       clear hy451
       have H' := c' H
       clear H
       have hcz12_0 := bC BK442 0 (.slice A0_0 l0_0.length c0_0)
       have hcz12_1 := bC BK442 1 (.int .i64 a0_1)
       have hfz12_0 := b' BK442.out 0
       have hfz12_1 := b' BK442.out 1
       try go_wp2
       have n0_ := c' (Kd.N_drew HO_4.out)
       have n1_ := c' (blk_drew BK442.out)
       have n2_ := c' (below_drew1 HB.out)
       clear HO_4
       clear BK442
       clear HB
       have HO_4 := n0_
       have BK442 := n1_
       have HB := n2_
       clear n0_ n1_ n2_
       have p444 : 0 ≤ (x5_1 : Int) := oD
       have q444 : x5_1 < (l0_0.length : Int) := oD
       obtain ⟨ad444, A444_0, c444_0, e444, hx444_0, hl444_0, hi444_0⟩ := at_L1 HR0_0.out x5_1 p444 q444
       have hw444_0 := hx444_0
       cases e444
       replace hx444_0 := (HB.out.cell (World.block_lt_of_cell? w _ hx444_0)).trans hx444_0
       have HR444_0 := c' hi444_0
       have HC444_0 := c' hl444_0
       clear hi444_0 hl444_0
       replace p444 := eq_true p444
       replace q444 := eq_true q444
       have p445 : 0 ≤ (x5_1 : Int) := oD
       have q445 : x5_1 < (l0_0.length : Int) := oD
       obtain ⟨ad445, A445_0, c445_0, e445, hx445_0, hl445_0, hi445_0⟩ := at_L1 HR0_0.out x5_1 p445 q445
       have hw445_0 := hx445_0
       obtain rfl : ad444 = ad445 := (by injection e445)
       replace hx445_0 := (HB.out.cell (World.block_lt_of_cell? w _ hx445_0)).trans hx445_0
       have HR445_0 := c' hi445_0
       have HC445_0 := c' hl445_0
       clear hi445_0 hl445_0
       replace p445 := eq_true p445
       replace q445 := eq_true q445
       have ea_ := Option.some.inj (hx444_0.symm.trans hx445_0)
       injection ea_ with ea_ en_ ec_
       subst ea_
       subst ec_
       clear en_
       refine start_ (n := 17) (S := fun w' => w'.cell? ⟨gb442, 0, none⟩ = some (.slice (some ad444) l0_0.length c0_0) ∧ w'.cell? ⟨gb442, 1, none⟩ = some (.int .i64 a0_1) ∧ w'.cell? (ad444.add (x5_1).toNat) = some (.slice A444_0 (rd_L1 l0_0 x5_1).length c444_0) ∧ w'.cell? (ad444.add (x5_1).toNat) = some (.slice A444_0 (rd_L1 l0_0 x5_1).length c444_0)) (ds := []) #[Z,Z,Z,Z,Z,Z,Z,Z,Z,Z,Z,Z,Z,Z,Z,Z,Z] (by kernel_rfl) rfl rfl ⟨(blk_cell BK442.out 0).trans rfl, (blk_cell BK442.out 1).trans rfl, ((HB.out.cell (World.block_lt_of_cell? w _ hw444_0)).trans hw444_0), ((HB.out.cell (World.block_lt_of_cell? w _ hw445_0)).trans hw445_0)⟩ (fun hHeld => ?_); refine with_tabW fanlightref06_Records.tab7 fanlightref06_Records.bits7 (fun HT_ HW_ => ?_)
       generalize wr.drew = w13 at HO_4 BK442 HB HR444_0 HR445_0 hx444_0 hx445_0 hHeld ⊢
       refine pP 0 19 #[Y,Z,Z,Z,Z,Z,Z,Z,Z,Z,Z,Z,Z,Z,Z,Z,Z] HT_ (h := ?_)
       refine pP 2 21 #[Y,Z,Y,Z,Z,Z,Z,Z,Z,Z,Z,Z,Z,Z,Z,Z,Z] HT_ (h := ?_)
       refine pP 5 24 #[Y,Z,Y,Z,Z,Y,Z,Z,Z,Z,Z,Z,Z,Z,Z,Z,Z] HT_ (h := ?_)
       refine pP 7 26 #[Y,Z,Y,Z,Z,Y,Z,Y,Z,Z,Z,Z,Z,Z,Z,Z,Z] HT_ (h := ?_)
       refine tP 1 20 #[Y,Y,Y,Z,Z,Y,Z,Y,Z,Z,Z,Z,Z,Z,Z,Z,Z] HT_ HW_ hHeld (hy := by refine Or.inl ⟨by rfl, ?_⟩; rintro w' ⟨s0, s1, s2, s3⟩; go_simp; with_reducible rfl) (h := ?_)
       refine pP 3 22 #[Y,Y,Y,Y,Z,Y,Z,Y,Z,Z,Z,Z,Z,Z,Z,Z,Z] HT_ (h := ?_)
       refine tP 4 23 #[Y,Y,Y,Y,Y,Y,Z,Y,Z,Z,Z,Z,Z,Z,Z,Z,Z] HT_ HW_ hHeld (hy := by refine Or.inl ⟨by rfl, ?_⟩; rintro w' ⟨s0, s1, s2, s3⟩; go_simp; with_reducible rfl) (h := ?_)
       refine tP 6 25 #[Y,Y,Y,Y,Y,Y,Y,Y,Z,Z,Z,Z,Z,Z,Z,Z,Z] HT_ HW_ hHeld (hy := by refine Or.inl ⟨by rfl, ?_⟩; rintro w' ⟨s0, s1, s2, s3⟩; go_simp; with_reducible rfl) (h := ?_)
       refine pP 8 27 #[Y,Y,Y,Y,Y,Y,Y,Y,Y,Z,Z,Z,Z,Z,Z,Z,Z] HT_ (h := ?_)
       refine tP 9 28 #[Y,Y,Y,Y,Y,Y,Y,Y,Y,Y,Z,Z,Z,Z,Z,Z,Z] HT_ HW_ hHeld (hy := by refine Or.inl ⟨by rfl, ?_⟩; rintro w' ⟨s0, s1, s2, s3⟩; go_simp; with_reducible rfl) (h := ?_)
       refine one_ (i := 10) (N := some 29) #[Y,Y,Y,Y,Y,Y,Y,Y,Y,Y,Y,Z,Z,Z,Z,Z,Z] rfl rfl (one_of HT_.out (by kernel_rfl)) (by decide) (fun K hK => ?_)
       refine goes_ Try.func34 (by kernel_rfl) rfl #[.slice A444_0 (rd_L1 l0_0 x5_1).length c444_0] (by rfl) rfl rfl (by (try simp only [List.map_toArray, List.map_cons, List.map_nil]); first | done | rfl | (simp only [List.length_drop, List.length_take]; rfl)) ?_
       with_reducible refine (fanlightref06_first.calls k1 _ _ (rd_L1 l0_0 x5_1) t446 _ ?side1 ?side2 A9.out).mono ?_
       (case side1 => exact Kd.eC HR445_0 HB)
       (case side2 => exact HC445_0.out)
       rintro e w14 ⟨rfl, hb⟩
       refine ⟨_, rfl, ?_⟩
       have n0_ := c' (Kd.N_below (Kd.eN HO_4) hb)
       have n1_ := bB BK442 hb
       have n2_ := c' (below_step (eH HB) hb)
       clear HO_4
       clear BK442
       clear HB
       have HO_4 := n0_
       have BK442 := n1_
       have HB := n2_
       clear n0_ n1_ n2_
       (try clear hb)
       (try clear hb2)
       (try clear hk)
       (try clear hi)
       refine hK.out _ _ ⟨(blk_cell BK442.out 0).trans rfl, (blk_cell BK442.out 1).trans rfl, ((HB.out.cell (World.block_lt_of_cell? w _ hw444_0)).trans hw444_0), ((HB.out.cell (World.block_lt_of_cell? w _ hw445_0)).trans hw445_0)⟩ (fun hHeld => ?_)
       clear hK K
       refine norm_ (a' := ?_) ?_ ?_
       rotate_left
       ·
        show Act.put _ (some 29) _ = _
        exact uP
       refine one_ (i := 11) (N := some 30) #[Y,Y,Y,Y,Y,Y,Y,Y,Y,Y,Y,Y,Z,Z,Z,Z,Z] rfl rfl (one_of HT_.out (by kernel_rfl)) (by decide) (fun K hK => ?_)
       refine goes_ Try.func33 (by kernel_rfl) rfl #[.slice A444_0 (rd_L1 l0_0 x5_1).length c444_0, .int .i64 t446] (by rfl) rfl rfl (by (try simp only [List.map_toArray, List.map_cons, List.map_nil]); first | done | rfl | (simp only [List.length_drop, List.length_take]; rfl)) ?_
       with_reducible refine (fanlightref06_Scan.calls k1 _ _ (rd_L1 l0_0 x5_1) t446 t447 t448 _ ?side1 ?side2 A10.out).mono ?_
       (case side1 => exact Kd.eC HR444_0 HB)
       (case side2 => exact HC444_0.out)
       rintro e w15 ⟨v449, rfl, ho0, hb⟩
       refine ⟨_, rfl, ?_⟩
       have n0_ := c' (Kd.N_elder' (Kd.eN HO_4) (Kd.S_base ho0) hb)
       have n1_ := c' (Kd.N_lower (Kd.N_mono (ok' := fun k_ => (w.heap.size ≤ k_) ∧ some k_ ≠ (u4 : Value).ownBlock ∧ k_ ≠ gb442) (Kd.S_N (Kd.S_bound ho0)) (fun k_ hk_ => ⟨(Nat.le_trans (below_size (eH HB)) hk_.2.1), (Kd.fresh' (Kd.N_lt (Kd.eN HO_4)) k_ hk_.2.1), (Kd.freshB (g := gb442) (o := .cells #[.slice (some ad444) l0_0.length c0_0, .int .i64 a0_1] 24 (0, 0)) (eB BK442) k_ hk_.2.1)⟩)) (below_size (eH HB)))
       have n2_ := bB BK442 hb
       have n3_ := c' (below_step (eH HB) hb)
       clear HO_4
       clear BK442
       clear HB
       have HO_4 := n0_
       have HO450 := n1_
       have BK442 := n2_
       have HB := n3_
       clear n0_ n1_ n2_ n3_
       (try clear hb)
       (try clear hb2)
       (try clear hk)
       (try clear hi)
       (try clear ho0)
       refine hK.out _ _ ⟨(blk_cell BK442.out 0).trans rfl, (blk_cell BK442.out 1).trans rfl, ((HB.out.cell (World.block_lt_of_cell? w _ hw444_0)).trans hw444_0), ((HB.out.cell (World.block_lt_of_cell? w _ hw445_0)).trans hw445_0)⟩ (fun hHeld => ?_)
       clear hK K
       refine norm_ (a' := ?_) ?_ ?_
       rotate_left
       ·
        show Act.put _ (some 30) _ = _
        exact uP
       refine pP 12 18 #[Y,Y,Y,Y,Y,Y,Y,Y,Y,Y,Y,Y,Y,Z,Z,Z,Z] HT_ (h := ?_)
       refine pP 13 31 #[Y,Y,Y,Y,Y,Y,Y,Y,Y,Y,Y,Y,Y,Y,Z,Z,Z] HT_ (h := ?_)
       refine pP 14 32 #[Y,Y,Y,Y,Y,Y,Y,Y,Y,Y,Y,Y,Y,Y,Y,Z,Z] HT_ (h := ?_)
       refine pP 15 6 #[Y,Y,Y,Y,Y,Y,Y,Y,Y,Y,Y,Y,Y,Y,Y,Y,Z] HT_ (h := ?_)
       refine pP 16 7 #[Y,Y,Y,Y,Y,Y,Y,Y,Y,Y,Y,Y,Y,Y,Y,Y,Y] HT_ (h := ?_)
       refine done_ (done_of HT_.out (by kernel_rfl)) ?_
       obtain ⟨Ao17, co17, eo17⟩ := Kd.N_slice HO450.out
       subst eo17
       try go_wp2_with (first | ((with_reducible refine gate_builtin (b := .append) (xs := #[.tmp 33, .tmp 34]) rfl ?_); at_builtin; refine Kd.N_append_rows k57 (w0 := w) w.heap.size rfl (.tmp 33) (.tmp 34) 42 57 (.agg #[(.int .i64 0), (.slice none 0 0)]) 32 rfl Try.underlying42 info57 rfl (by decide) (by omega) u4 x4_1 t447 _ _ _ (fun k_ => (w.heap.size ≤ k_) ∧ k_ ≠ gb442) (fun k_ => ((fun k_ => (w.heap.size ≤ k_) ∧ k_ ≠ gb442)) k_ ∧ some k_ ≠ (u4 : Value).ownBlock) rfl rfl ?aO ?aR (fun _ hk => hk) ?aF ?aB ?aS ?aL ?_; (case aR => exact (by skip; exact Kd.N_F (Kd.N_mono (ok' := (fun k_ => ((fun k_ => (w.heap.size ≤ k_) ∧ k_ ≠ gb442)) k_ ∧ some k_ ≠ (u4 : Value).ownBlock)) (HO450.out) (fun k_ hk => ⟨⟨hk.1, hk.2.2⟩, hk.2.1⟩)))); (case aB => exact (eH HB)); (case aF => exact (fun k_ hk => ⟨(Nat.le_trans (below_size (eH HB)) hk), Kd.freshB (g := gb442) (o := .cells #[.slice (some ad444) l0_0.length c0_0, .int .i64 a0_1] 24 (0, 0)) (eB BK442) k_ hk⟩)); (case aO => exact (Kd.kN (Kd.N_mono HO_4.out (fun _ hk => ⟨hk.1.1, hk.1.2⟩)))); (case aS => exact (below_size (eH HB))); (case aL => have := LMc11.out; omega); intro v452 w16 ho hb hg hat; rw [← Ny451.out] at ho; have n0_ := c' (blk_grown (g := gb442) (o := .cells #[.slice (some ad444) l0_0.length c0_0, .int .i64 a0_1] 24 (0, 0)) (eB BK442) hg (Kd.N_ne HO_4.out BK442.out (by decide))); have n1_ := c' (Kd.N_afterv (ok := (fun k_ => (w.heap.size ≤ k_) ∧ k_ ≠ gb442)) (Kd.kN (Kd.N_mono HO450.out (fun _ hk => ⟨⟨hk.1, hk.2.2⟩, hk.2.1⟩))) hg hat); have n2_ := c' (hb); have n3_ := c' (ho); clear BK442; clear HO450; clear HB; clear HO_4; have BK442 := n0_; have HO450 := n1_; have HB := n2_; have HO453 := n3_; clear n0_ n1_ n2_ n3_; clear ho hb hg hat))
       go_roundg k1
       case measure => have := HK1.out; omega
       case rel => exact ⟨(y451), (wrap64 (x5_1 + 1)), rS, H', ⟨by have := HK1.out; omega⟩, ⟨Kd.eN HO453⟩, ⟨eB BK442⟩, ⟨eH HB⟩⟩
      ·
       rw [if_neg c11] at H
       exact absurd H (by simp)
     ·
      rw [if_neg c8] at H
      exact absurd H (by simp)
    ·
     rw [if_neg c7] at H
     have c7b0 := decide_eq_false c7
     clear c7
     simp only [Option.some.injEq, Prod.mk.injEq] at H
     obtain ⟨rfl, rfl⟩ := H
     have hcz18_0 := bC BK442 0 (.slice A0_0 l0_0.length c0_0)
     have hcz18_1 := bC BK442 1 (.int .i64 a0_1)
     have hfz18_0 := b' BK442.out 0
     have hfz18_1 := b' BK442.out 1
     go_wp2
     go_ret2
     exact ⟨_, eE, by (with_reducible repeat (first | apply Kd.N_alloc | apply Kd.N_drewN | apply Kd.N_drew)); exact Kd.N_mono HO_4.out (fun _ hk => hk.1), eH HB⟩
 ·
  rw [if_neg c3] at H
  have c3b0 := beq_eq_false_iff_ne.mpr c3
  have c3b1 := bne_iff_ne.mpr c3
  simp only [Option.some.injEq, Prod.mk.injEq] at H
  obtain ⟨rfl, rfl⟩ := H
  go_enter Try.func17, Try.ntmps17
  go_wp2_with (first | ((with_reducible refine gate_dst (N := 1) rfl ?_); refine box_event ?hg (N := 1) ?hd (cs := #[.slice A0_0 l0_0.length c0_0, .int .i64 a0_1]) (t := 24) ?hr ?_; (case hd => rfl); (case hg => rfl); (case hr => go_simp <;> rfl); intro gb442 hg w19 hbox hb; have n0_ := c' (below_step (eH HB) hb); have n1_ := c' (hbox); have n2_ := c' ((by rw [hg]; exact (below_size (eH HB)) : w.heap.size ≤ gb442)); have n3_ := c' ((by rw [hg]; exact (below_size (eH HB)) : w.heap.size ≤ gb442)); clear HB; have HB := n0_; have BK442 := n1_; have GW442 := n2_; have GE442 := n3_; clear n0_ n1_ n2_ n3_; clear hb hbox hg; have hcz20_0 := bC BK442 0 (.slice A0_0 l0_0.length c0_0); have hcz20_1 := bC BK442 1 (.int .i64 a0_1); have hfz20_0 := b' BK442.out 0; have hfz20_1 := b' BK442.out 1) | ((with_reducible refine gate_callee (f := 22) rfl ?_); refine gL 9 Try.func22 #[.agg #[.slice A0_0 l0_0.length c0_0, .int .i64 a0_1]] (h := ?_); (with_reducible refine (fanlightref06_Check.calls k _ _ l0_0 a0_1 t443 _ ?side1 ?side2 A2.out).mono ?_); (case side1 => exact Kd.eC HR0_0 HB); (case side2 => exact HC0_0.out); rintro e w21 ⟨rfl, hb⟩; refine ⟨_, rfl, ?_⟩; have n0_ := bB BK442 hb; have n1_ := c' (below_step (eH HB) hb); clear BK442; clear HB; have BK442 := n0_; have HB := n1_; clear n0_ n1_; (try clear hb); (try clear hb2); (try clear hk); (try clear hi)))
  go_ret2
  exact ⟨_, eE, nS, eH HB⟩
end Go.Proofs.Ytgmkgobapeencaa.S
