import Derived.Laws.Cover3
import Derived.OpenShut
import Derived.Lib.SlBytesConst
import Derived.Deep.RegionHeld3
import Derived.Laws.BitsAllLaws
import Derived.WalkSpells
import Derived.RangeFuncNested
import Derived.RangeFuncBound
import Derived.RangeFuncCalls
import Derived.RangeFuncLeaves
import Derived.RangeFuncBox
import Derived.OwnWalkIn
import Derived.TacticsInMore
import Derived.LoopNIn
import Derived.LoopIn
import Derived.Lib.Hide
import Derived.Outline
import Derived.Maps.OwnIn
import Derived.StillTailTactics
import Derived.OrdersIn
import Derived.TacticsIn
import Derived.Test.YtkdaeleolomdkaaYAid
import Derived.Test.YtkdaeleolomdkaaYAid2
import Derived.Test.YtkdaeleolomdkaaYAid4
import Derived.Test.YtkdaeleolomdkaaYD0
import Derived.Test.YtkdaeleolomdkaaYD12
import Derived.Test.YtkdaeleolomdkaaYD2
import Derived.Test.YtkdaeleolomdkaaYD11
import Derived.Test.YtkdaeleolomdkaaYD18
import Derived.Test.YtkdaeleolomdkaaYD19
import Derived.Test.YtkdaeleolomdkaaYD24
import Derived.Test.YtkdaeleolomdkaaYD26
import Derived.Test.YtkdaeleolomdkaaYD28
namespace Go.Proofs.Ytkdaeleolomdkaa.D
open Go.RowKit Go.Shelf Go.Proofs.YtkdaeleolomdkaaW.PrintWords Go.Proofs.YtkdaeleolomdkaaW.PrintLast Go.Proofs.YtkdaeleolomdkaaW.PrintMore
attribute [local go_sem] max2_int min2_int max_two min_two max_three min_three max_four min_four
set_option linter.unusedVariables false
set_option linter.unusedSimpArgs false
theorem S_some {α : Type} {d : Kd α} {e base : Nat} {ok : Nat → Prop} {W : World} {v : Value} {xs : List α} (h : Kd.S d e W base ok v xs) : ∃ N1, Kd.S d e W base (fun k => k < N1) v xs ∧ N1 = W.heap.size :=
 ⟨W.heap.size, Kd.S_mono (Kd.S_bound h) (fun _ hk => hk.2.2.1), rfl⟩
set_option maxHeartbeats 8000000 in
set_option maxRecDepth 100000 in
theorem fanlightlaw05_Of.calls2 (k : Nat) (A0_0 : Option Addr) (c0_0 : Nat) (l0_0 : List (List Int)) (A0_1 : Option Addr) (c0_1 : Nat) (l0_1 : List (S57)) (r1 : List (List Int)) (r2 : List (S57)) (w : World) (hr0_0 : Kd.C (Kd.slice 5 (Kd.int .u8)) w A0_0 l0_0.length l0_0) (hc0_0 : l0_0.length ≤ c0_0) (hr0_1 : Kd.C k57 w A0_1 l0_1.length l0_1) (hc0_1 : l0_1.length ≤ c0_1) (h : fanlightlaw05_Of.f k l0_0 l0_1 = some (r1, r2)) :
  Calls Try.prog 31 #[.agg #[.slice A0_0 l0_0.length c0_0, .slice A0_1 l0_1.length c0_1]] w fun e w' => ∃ (v0_ v1_ : Value) (P : Nat → Prop), e = .returned (.agg #[v0_, v1_]) ∧ Kd.S (Kd.slice 5 (Kd.int .u8)) 22 w' w.heap.size P v0_ r1 ∧ Kd.S k57 57 w' w.heap.size (fun k => ¬ P k) v1_ r2 ∧ Below w.heap.size w w' := by
 have hu55 := Try.underlying55
 have hu58 := Try.underlying58
 have HR0_0 := Aside0.mk hr0_0
 have HC0_0 := Aside0.mk hc0_0
 clear hr0_0 hc0_0
 have HR0_1 := Aside0.mk hr0_1
 have HC0_1 := Aside0.mk hc0_1
 clear hr0_1 hc0_1
 have HB := Aside0.mk (Below.refl w.heap.size w)
 have H : ((fanlightplain_CopyWrites.f k l0_1).bind fun t188 => (fanlightlaw05_Of.l0 k 0 l0_0 l0_1 ([] : List (List Int)) t188)) = some (r1, r2) := h
 clear h
 replace H := Option.bind_eq_some_iff.mp H
 obtain ⟨t188, A20, H⟩ := H
 replace H : (fanlightlaw05_Of.l0 k 0 l0_0 l0_1 ([] : List (List Int)) t188) = some (r1, r2) := H
 have A2 := Aside0.mk A20
 clear A20
 have H' := Aside0.mk H
 clear H
 go_enter Try.func31, Try.ntmps31
 go_wp2_with (first | ((with_reducible refine gate_dst (N := 1) rfl ?_); refine box_event ?hg (N := 1) ?hd (cs := #[.slice A0_0 l0_0.length c0_0, .slice A0_1 l0_1.length c0_1]) (t := 55) ?hr ?_; (case hd => rfl); (case hg => rfl); (case hr => first | (go_simp; done) | (go_simp; rfl)); intro gb186 hg w3 hbox hb; have n0_ := Aside0.mk (below_step (by repeat (first | (with_reducible first | exact HB.out | apply below_alloc | apply pw_below_drewN | apply below_drew1) | exact HB.out)) hb); have n1_ := Aside0.mk (hbox); have n2_ := Aside0.mk ((by rw [hg]; exact (below_size (by repeat (first | (with_reducible first | exact HB.out | apply below_alloc | apply pw_below_drewN | apply below_drew1) | exact HB.out))) : w.heap.size ≤ gb186)); have n3_ := Aside0.mk ((by rw [hg]; exact (below_size (by repeat (first | (with_reducible first | exact HB.out | apply below_alloc | apply pw_below_drewN | apply below_drew1) | exact HB.out))) : w.heap.size ≤ gb186)); clear HB; have HB := n0_; have BK186 := n1_; have GW186 := n2_; have GE186 := n3_; clear n0_ n1_ n2_ n3_; clear hb hbox hg) | ((with_reducible refine gate_dst (N := 2) rfl ?_); refine box_event ?hg (N := 2) ?hd (cs := #[.slice none 0 0, .slice none 0 0]) (t := 58) ?hr ?_; (case hd => rfl); (case hg => rfl); (case hr => first | (go_simp; done) | (go_simp; rfl)); intro gb187 hg w4 hbox hb; have n0_ := Aside0.mk (blk_below (g := gb186) (o := .cells #[.slice A0_0 l0_0.length c0_0, .slice A0_1 l0_1.length c0_1] 55 (0, 0)) (by (with_reducible repeat (first | refine blk_drewN ?_ _ | refine blk_drew ?_ | refine blk_alloc ?_ _)); exact BK186.out) hb); have n1_ := Aside0.mk (below_step (by repeat (first | (with_reducible first | exact HB.out | apply below_alloc | apply pw_below_drewN | apply below_drew1 | refine below_set ?_ GE186.out) | exact HB.out)) hb); have n2_ := Aside0.mk (hbox); have n3_ := Aside0.mk ((by rw [hg]; exact (below_size (by repeat (first | (with_reducible first | exact HB.out | apply below_alloc | apply pw_below_drewN | apply below_drew1 | refine below_set ?_ GE186.out) | exact HB.out))) : w.heap.size ≤ gb187)); have n4_ := Aside0.mk ((by rw [hg]; exact (below_size (by repeat (first | (with_reducible first | exact HB.out | apply below_alloc | apply pw_below_drewN | apply below_drew1 | refine below_set ?_ GE186.out) | exact HB.out))) : w.heap.size ≤ gb187)); have n5_ := Aside0.mk ((by rw [hg]; exact Nat.ne_of_lt (blk_lt (g := gb186) (o := .cells #[.slice A0_0 l0_0.length c0_0, .slice A0_1 l0_1.length c0_1] 55 (0, 0)) (by (with_reducible repeat (first | refine blk_drewN ?_ _ | refine blk_drew ?_ | refine blk_alloc ?_ _)); exact BK186.out)) : gb186 ≠ gb187)); have n6_ := Aside0.mk ((by rw [hg]; exact Nat.ne_of_gt (blk_lt (g := gb186) (o := .cells #[.slice A0_0 l0_0.length c0_0, .slice A0_1 l0_1.length c0_1] 55 (0, 0)) (by (with_reducible repeat (first | refine blk_drewN ?_ _ | refine blk_drew ?_ | refine blk_alloc ?_ _)); exact BK186.out)) : gb187 ≠ gb186)); clear BK186; clear HB; have BK186 := n0_; have HB := n1_; have BK187 := n2_; have GW187 := n3_; have GE187 := n4_; have NB186_187 := n5_; have NB187_186 := n6_; clear n0_ n1_ n2_ n3_ n4_ n5_ n6_; clear hb hbox hg; have hnb5 := NB186_187.out; have hnc5 := NB187_186.out; have hcz6_0 : w4.cell? ⟨gb186, 0, none⟩ = some (.slice A0_0 l0_0.length c0_0) := (blk_cell BK186.out 0).trans rfl; have hcz6_1 : w4.cell? ⟨gb186, 1, none⟩ = some (.slice A0_1 l0_1.length c0_1) := (blk_cell BK186.out 1).trans rfl; have hfz6_0 := blk_frozen BK186.out 0; have hfz6_1 := blk_frozen BK186.out 1) | ((with_reducible refine gate_callee (f := 56) rfl ?_); refine goesL_ (some 7) rfl rfl Try.func56 (by kernel_rfl) rfl #[.slice A0_1 l0_1.length c0_1] rfl (by (try simp only [List.map_toArray, List.map_cons, List.map_nil]); first | done | rfl | (simp only [List.length_drop, List.length_take]; rfl)) ?_; (with_reducible refine (fanlightplain_CopyWrites.calls k _ _ l0_1 t188 _ ?side1 ?side2 A2.out).mono ?_); (case side1 => repeat (first | exact (Kd.C_below HR0_1.out HB.out) | (with_reducible refine Kd.C_alloc ?_ _) | (with_reducible refine Kd.C_drewN ?_ _) | (with_reducible refine Kd.C_drew ?_))); (case side2 => exact HC0_1.out); rintro e w7 ⟨v189, rfl, ho0, hb⟩; refine ⟨_, rfl, ?_⟩; have n0_ := Aside0.mk (Kd.S_lower ho0 (below_size (by repeat (first | (with_reducible first | exact HB.out | apply below_alloc | apply pw_below_drewN | apply below_drew1 | refine below_set ?_ GE186.out | refine below_set ?_ GE187.out) | exact HB.out)))); have n1_ := Aside0.mk (blk_below (g := gb186) (o := .cells #[.slice A0_0 l0_0.length c0_0, .slice A0_1 l0_1.length c0_1] 55 (0, 0)) (by (with_reducible repeat (first | refine blk_drewN ?_ _ | refine blk_drew ?_ | refine blk_alloc ?_ _)); exact BK186.out) hb); have n2_ := Aside0.mk (blk_below (g := gb187) (o := .cells #[.slice none 0 0, .slice none 0 0] 58 (0, 0)) (by (with_reducible repeat (first | refine blk_drewN ?_ _ | refine blk_drew ?_ | refine blk_alloc ?_ _)); exact BK187.out) hb); have n3_ := Aside0.mk (below_step (by repeat (first | (with_reducible first | exact HB.out | apply below_alloc | apply pw_below_drewN | apply below_drew1 | refine below_set ?_ GE186.out | refine below_set ?_ GE187.out) | exact HB.out)) hb); clear BK186; clear BK187; clear HB; have HO190 := n0_; have BK186 := n1_; have BK187 := n2_; have HB := n3_; clear n0_ n1_ n2_ n3_; (try clear hb); (try clear hb2); (try clear hk); (try clear hi); (try clear ho0); obtain ⟨Ao8, co8, eo8⟩ := Kd.S_slice HO190.out; subst eo8) | ((with_reducible refine gate_dst (N := 3) rfl ?_); refine box_event ?hg (N := 3) ?hd (cs := #[.slice none 0 0, .slice none 0 0]) (t := 58) ?hr ?_; (case hd => rfl); (case hg => rfl); (case hr => first | (go_simp; done) | (go_simp; rfl)); intro gb191 hg w9 hbox hb; have n0_ := Aside0.mk (Kd.S_below (by (with_reducible repeat (first | apply Kd.S_alloc | apply Kd.S_drewN | apply Kd.S_drew)); exact HO190.out) hb); have n1_ := Aside0.mk (blk_below (g := gb186) (o := .cells #[.slice A0_0 l0_0.length c0_0, .slice A0_1 l0_1.length c0_1] 55 (0, 0)) (by (with_reducible repeat (first | refine blk_drewN ?_ _ | refine blk_drew ?_ | refine blk_alloc ?_ _)); exact BK186.out) hb); have n2_ := Aside0.mk (blk_below (g := gb187) (o := .cells #[.slice none 0 0, .slice none 0 0] 58 (0, 0)) (by (with_reducible repeat (first | refine blk_drewN ?_ _ | refine blk_drew ?_ | refine blk_alloc ?_ _)); exact BK187.out) hb); have n3_ := Aside0.mk (below_step (by repeat (first | (with_reducible first | exact HB.out | apply below_alloc | apply pw_below_drewN | apply below_drew1 | refine below_set ?_ GE186.out | refine below_set ?_ GE187.out) | exact HB.out)) hb); have n4_ := Aside0.mk (hbox); have n5_ := Aside0.mk ((by rw [hg]; exact (below_size (by repeat (first | (with_reducible first | exact HB.out | apply below_alloc | apply pw_below_drewN | apply below_drew1 | refine below_set ?_ GE186.out | refine below_set ?_ GE187.out) | exact HB.out))) : w.heap.size ≤ gb191)); have n6_ := Aside0.mk ((by rw [hg]; exact (below_size (by repeat (first | (with_reducible first | exact HB.out | apply below_alloc | apply pw_below_drewN | apply below_drew1 | refine below_set ?_ GE186.out | refine below_set ?_ GE187.out) | exact HB.out))) : w.heap.size ≤ gb191)); have n7_ := Aside0.mk ((by rw [hg]; exact Nat.ne_of_lt (blk_lt (g := gb186) (o := .cells #[.slice A0_0 l0_0.length c0_0, .slice A0_1 l0_1.length c0_1] 55 (0, 0)) (by (with_reducible repeat (first | refine blk_drewN ?_ _ | refine blk_drew ?_ | refine blk_alloc ?_ _)); exact BK186.out)) : gb186 ≠ gb191)); have n8_ := Aside0.mk ((by rw [hg]; exact Nat.ne_of_gt (blk_lt (g := gb186) (o := .cells #[.slice A0_0 l0_0.length c0_0, .slice A0_1 l0_1.length c0_1] 55 (0, 0)) (by (with_reducible repeat (first | refine blk_drewN ?_ _ | refine blk_drew ?_ | refine blk_alloc ?_ _)); exact BK186.out)) : gb191 ≠ gb186)); have n9_ := Aside0.mk ((by rw [hg]; exact Nat.ne_of_lt (blk_lt (g := gb187) (o := .cells #[.slice none 0 0, .slice none 0 0] 58 (0, 0)) (by (with_reducible repeat (first | refine blk_drewN ?_ _ | refine blk_drew ?_ | refine blk_alloc ?_ _)); exact BK187.out)) : gb187 ≠ gb191)); have n10_ := Aside0.mk ((by rw [hg]; exact Nat.ne_of_gt (blk_lt (g := gb187) (o := .cells #[.slice none 0 0, .slice none 0 0] 58 (0, 0)) (by (with_reducible repeat (first | refine blk_drewN ?_ _ | refine blk_drew ?_ | refine blk_alloc ?_ _)); exact BK187.out)) : gb191 ≠ gb187)); clear HO190; clear BK186; clear BK187; clear HB; have HO190 := n0_; have BK186 := n1_; have BK187 := n2_; have HB := n3_; have BK191 := n4_; have GW191 := n5_; have GE191 := n6_; have NB186_191 := n7_; have NB191_186 := n8_; have NB187_191 := n9_; have NB191_187 := n10_; clear n0_ n1_ n2_ n3_ n4_ n5_ n6_ n7_ n8_ n9_ n10_; clear hb hbox hg; have hnb10 := NB191_186.out; have hnc10 := NB186_191.out; have hnb11 := NB191_187.out; have hnc11 := NB187_191.out; have hcz12_0 : w9.cell? ⟨gb191, 0, none⟩ = some (.slice none 0 0) := (blk_cell BK191.out 0).trans rfl; have hcz12_1 : w9.cell? ⟨gb191, 1, none⟩ = some (.slice none 0 0) := (blk_cell BK191.out 1).trans rfl; have hfz12_0 := blk_frozen BK191.out 0; have hfz12_1 := blk_frozen BK191.out 1))
 obtain ⟨N1, hOB_, hN1⟩ := S_some HO190.out
 have HOB_ := Aside0.mk hOB_
 have HN := Aside0.mk (Nat.le_of_eq hN1)
 clear hOB_ hN1
 go_loopg [4] k (fun kq v4 w' => ∃ (x4_1 : Int) (x192000_1 : List (List Int)) (u192000 : Value), v4 = .int .i64 x4_1 ∧ Aside0 (fanlightlaw05_Of.l0 kq x4_1 l0_0 l0_1 x192000_1 t188 = some (r1, r2)) ∧ Aside0 (kq ≤ k) ∧ Aside0 (Kd.S (Kd.slice 5 (Kd.int .u8)) 22 w' w.heap.size (fun k_ => N1 ≤ k_) u192000 x192000_1) ∧ Aside0 (Kd.S k57 57 w' w.heap.size (fun k_ => k_ < N1) (.slice Ao8 t188.length co8) t188) ∧ Aside0 (N1 ≤ w'.heap.size) ∧ Aside0 (w'.heap[gb186]? = some (.cells #[(.slice A0_0 l0_0.length c0_0), (.slice A0_1 l0_1.length c0_1)] 55 (0, 0))) ∧ Aside0 (w'.heap[gb187]? = some (.cells #[(.slice none 0 0), (.slice none 0 0)] 58 (0, 0))) ∧ Aside0 (w'.heap[gb191]? = some (.cells #[u192000, (.slice Ao8 t188.length co8)] 58 (0, 0))) ∧ Aside0 (Below w.heap.size w w'))
 case atStart => exact ⟨(0), (([] : List (List Int))), (.slice none 0 0), (by first | rfl | (simp; done) | (simp [*]; done)), H', ⟨Nat.le_refl _⟩, ⟨by first | exact Kd.S_nil _ _ _ _ _ | exact Kd.N_nil _ _ _ _ _ | exact Kd.V_nil _ _ _ _ _ | exact Kd.Q_nil _ _ _ _ _ | exact Kd.R_nil _ _ _ _ _⟩, ⟨by (with_reducible repeat (first | apply Kd.S_alloc | apply Kd.S_drewN | apply Kd.S_drew)); exact Kd.S_mono (Kd.S_far (p := ⟨gb191, 1, none⟩) (Kd.S_far (p := ⟨gb191, 0, none⟩) (Kd.S_types HOB_.out BK191.out (by decide)) (fun _ hk => hk.2) (.slice none 0 0)) (fun _ hk => hk.2) (.slice Ao8 t188.length co8)) (fun _ hk => hk.1)⟩, ⟨by have := HN.out; simpa using this⟩, ⟨by (with_reducible repeat (first | refine blk_drewN ?_ _ | refine blk_drew ?_ | refine blk_alloc ?_ _)); refine blk_far ?_ NB186_191.out _; (with_reducible repeat (first | refine blk_drewN ?_ _ | refine blk_drew ?_ | refine blk_alloc ?_ _)); refine blk_far ?_ NB186_191.out _; (with_reducible repeat (first | refine blk_drewN ?_ _ | refine blk_drew ?_ | refine blk_alloc ?_ _)); exact BK186.out⟩, ⟨by (with_reducible repeat (first | refine blk_drewN ?_ _ | refine blk_drew ?_ | refine blk_alloc ?_ _)); refine blk_far ?_ NB187_191.out _; (with_reducible repeat (first | refine blk_drewN ?_ _ | refine blk_drew ?_ | refine blk_alloc ?_ _)); refine blk_far ?_ NB187_191.out _; (with_reducible repeat (first | refine blk_drewN ?_ _ | refine blk_drew ?_ | refine blk_alloc ?_ _)); exact BK187.out⟩, ⟨by (with_reducible repeat (first | refine blk_drewN ?_ _ | refine blk_drew ?_ | refine blk_alloc ?_ _)); refine blk_put (cs := #[.slice none 0 0, .slice none 0 0]) ?_ 1 _ rfl; (with_reducible repeat (first | refine blk_drewN ?_ _ | refine blk_drew ?_ | refine blk_alloc ?_ _)); refine blk_put (cs := #[.slice none 0 0, .slice none 0 0]) ?_ 0 _ rfl; (with_reducible repeat (first | refine blk_drewN ?_ _ | refine blk_drew ?_ | refine blk_alloc ?_ _)); exact BK191.out⟩, ⟨by repeat (first | (with_reducible first | exact HB.out | apply below_alloc | apply pw_below_drewN | apply below_drew1 | refine below_set ?_ GE186.out | refine below_set ?_ GE187.out | refine below_set ?_ GE191.out) | exact HB.out)⟩⟩
 case round =>
  clear H' HN HOB_
  try clear c1
  try clear p2
  try clear c3
  try clear c5
  try clear c10
  try clear c11
  try clear hcz12_0
  try clear hcz12_1
  try clear hcz6_0
  try clear hcz6_1
  try clear hfz12_0
  try clear hfz12_1
  try clear hfz6_0
  try clear hfz6_1
  obtain ⟨x4_1, x192000_1, u192000, rfl, HA, HK1, HO_192000, HO_192001, HN, BK186, BK187, BK191, HB⟩ := hrel
  cases gk with
  | zero => exact absurd HA.out (by simp [fanlightlaw05_Of.l0])
  | succ k1 =>
   have H := HA.out
   clear HA
   simp only [fanlightlaw05_Of.l0] at H
   by_cases c13 : x4_1 < (l0_0.length : Int)
   ·
    rw [if_pos c13] at H
    have c13b0 : decide (x4_1 < (l0_0.length : Int)) = true := decide_eq_true c13
    clear c13
    by_cases c14 : 0 ≤ x4_1
    ·
     rw [if_pos c14] at H
     have c14b0 : decide (0 ≤ x4_1) = true := decide_eq_true c14
     clear c14
     replace H := Option.bind_eq_some_iff.mp H
     obtain ⟨t193, A150, H⟩ := H
     replace H : (if x192000_1.length < 5864062014805 then (fanlightlaw05_Of.l0 k1 (wrap64 (x4_1 + 1)) l0_0 l0_1 (x192000_1 ++ [t193]) t188) else (none)) = some (r1, r2) := H
     have A15 := Aside0.mk A150
     clear A150
     by_cases c16 : x192000_1.length < 5864062014805
     ·
      rw [if_pos c16] at H
      have LMc16 := Aside0.mk c16
      clear c16
      obtain ⟨y196, hy196⟩ : ∃ y_ : List (List Int), y_ = (x192000_1 ++ [t193]) := ⟨_, rfl⟩
      replace H : (fanlightlaw05_Of.l0 k1 (wrap64 (x4_1 + 1)) l0_0 l0_1 y196 t188) = some (r1, r2) := by first | (rw [hy196]; with_reducible exact H) | (have H2_ := (Option.bind_some _ _).symm.trans H; rw [hy196]; with_reducible exact H2_) | (have H2_ := (Option.bind_some _ _).symm.trans H; with_reducible exact H2_) | with_reducible exact H | (rw [hy196]; exact H) | exact H
      have Ny196 := Aside0.mk hy196
      clear hy196
      have H' := Aside0.mk H
      clear H
      have hnb17 := NB186_187.out
      have hnc17 := NB187_186.out
      have hnb18 := NB186_191.out
      have hnc18 := NB191_186.out
      have hcz19_0 : wr.cell? ⟨gb186, 0, none⟩ = some (.slice A0_0 l0_0.length c0_0) := (blk_cell BK186.out 0).trans rfl
      have hcz19_1 : wr.cell? ⟨gb186, 1, none⟩ = some (.slice A0_1 l0_1.length c0_1) := (blk_cell BK186.out 1).trans rfl
      have hfz19_0 := blk_frozen BK186.out 0
      have hfz19_1 := blk_frozen BK186.out 1
      try go_wp2
      have n0_ := Aside0.mk (Kd.S_drew HO_192000.out)
      have n1_ := Aside0.mk (Kd.S_drew HO_192001.out)
      have n2_ := Aside0.mk (blk_drew BK186.out)
      have n3_ := Aside0.mk (blk_drew BK187.out)
      have n4_ := Aside0.mk (blk_drew BK191.out)
      have n5_ := Aside0.mk (below_drew1 HB.out)
      clear HO_192000
      clear HO_192001
      clear BK186
      clear BK187
      clear BK191
      clear HB
      have HO_192000 := n0_
      have HO_192001 := n1_
      have BK186 := n2_
      have BK187 := n3_
      have BK191 := n4_
      have HB := n5_
      clear n0_ n1_ n2_ n3_ n4_ n5_
      have p192 : 0 ≤ (x4_1 : Int) := of_decide_eq_true (by first | (with_reducible assumption) | assumption)
      have q192 : x4_1 < (l0_0.length : Int) := of_decide_eq_true (by first | (with_reducible assumption) | assumption)
      obtain ⟨ad192, A192_0, c192_0, e192, hx192_0, hl192_0, hi192_0⟩ := at_L1 HR0_0.out x4_1 p192 q192
      have hw192_0 := hx192_0
      cases e192
      replace hx192_0 := (HB.out.cell (World.block_lt_of_cell? w _ hx192_0)).trans hx192_0
      have HR192_0 := Aside0.mk hi192_0
      have HC192_0 := Aside0.mk hl192_0
      clear hi192_0 hl192_0
      replace p192 := eq_true p192
      replace q192 := eq_true q192
      refine start_ (n := 12) (S := fun w' => w'.cell? ⟨gb191, 0, none⟩ = some (u192000) ∧ w'.cell? ⟨gb191, 1, none⟩ = some (.slice Ao8 t188.length co8) ∧ w'.cell? ⟨gb186, 0, none⟩ = some (.slice (some ad192) l0_0.length c0_0) ∧ w'.cell? ⟨gb186, 1, none⟩ = some (.slice A0_1 l0_1.length c0_1) ∧ w'.cell? (ad192.add (x4_1).toNat) = some (.slice A192_0 (rd_L1 l0_0 x4_1).length c192_0)) (ds := [11]) #[false, false, false, false, false, false, false, false, false, false, false, false] (by kernel_rfl) rfl rfl ⟨(blk_cell BK191.out 0).trans rfl, (blk_cell BK191.out 1).trans rfl, (blk_cell BK186.out 0).trans rfl, (blk_cell BK186.out 1).trans rfl, ((HB.out.cell (World.block_lt_of_cell? w _ hw192_0)).trans hw192_0)⟩ (fun hHeld => ?_); refine with_tabW fanlightlaw05_Of.tab5 fanlightlaw05_Of.bits5 (fun HT_ HW_ => ?_)
      replace HN : Aside0 (N1 ≤ wr.drew.heap.size) := ⟨HN.out⟩
      generalize wr.drew = w20 at HN HO_192000 HO_192001 BK186 BK187 BK191 HB HR192_0 hx192_0 hHeld ⊢
      refine pure_ (i := 0) (N := some 16) (v := ?_) (a' := ?_) #[true, false, false, false, false, false, false, false, false, false, false, false] rfl rfl (any_of HT_.out (by kernel_rfl)) (fun _ _ _ h => h) (Or.inl ⟨by rfl, ?_⟩) ?_ ?_
      rotate_left
      ·
       intro w'
       go_simp
       with_reducible rfl
      rotate_left
      ·
       simp only [Act.put, List.setIfInBounds_toArray, List.set_cons_zero, List.set_cons_succ, i64_w, i32_w]
       rfl
      refine pure_ (i := 2) (N := some 18) (v := ?_) (a' := ?_) #[true, false, true, false, false, false, false, false, false, false, false, false] rfl rfl (any_of HT_.out (by kernel_rfl)) (fun _ _ _ h => h) (Or.inl ⟨by rfl, ?_⟩) ?_ ?_
      rotate_left
      ·
       intro w'
       go_simp
       with_reducible rfl
      rotate_left
      ·
       simp only [Act.put, List.setIfInBounds_toArray, List.set_cons_zero, List.set_cons_succ, i64_w, i32_w]
       rfl
      refine pure_ (i := 4) (N := some 20) (v := ?_) (a' := ?_) #[true, false, true, false, true, false, false, false, false, false, false, false] rfl rfl (any_of HT_.out (by kernel_rfl)) (fun _ _ _ h => h) (Or.inl ⟨by rfl, ?_⟩) ?_ ?_
      rotate_left
      ·
       intro w'
       go_simp
       with_reducible rfl
      rotate_left
      ·
       simp only [Act.put, List.setIfInBounds_toArray, List.set_cons_zero, List.set_cons_succ, i64_w, i32_w]
       rfl
      refine take_ (i := 1) (N := some 17) (v := ?_) (a' := ?_) #[true, true, true, false, true, false, false, false, false, false, false, false] rfl rfl (take_ofW HT_.out HW_.out (by kernel_rfl)) (fun _ _ _ h => h) (Or.inl ⟨by rfl, ?_⟩) hHeld ?_ ?_
      rotate_left
      ·
       rintro w' ⟨s0, s1, s2, s3, s4⟩
       go_simp
       with_reducible rfl
      rotate_left
      ·
       simp only [Act.put, List.setIfInBounds_toArray, List.set_cons_zero, List.set_cons_succ, i64_w, i32_w]
       rfl
      refine take_ (i := 3) (N := some 19) (v := ?_) (a' := ?_) #[true, true, true, true, true, false, false, false, false, false, false, false] rfl rfl (take_ofW HT_.out HW_.out (by kernel_rfl)) (fun _ _ _ h => h) (Or.inl ⟨by rfl, ?_⟩) hHeld ?_ ?_
      rotate_left
      ·
       rintro w' ⟨s0, s1, s2, s3, s4⟩
       go_simp
       with_reducible rfl
      rotate_left
      ·
       simp only [Act.put, List.setIfInBounds_toArray, List.set_cons_zero, List.set_cons_succ, i64_w, i32_w]
       rfl
      refine pure_ (i := 5) (N := some 21) (v := ?_) (a' := ?_) #[true, true, true, true, true, true, false, false, false, false, false, false] rfl rfl (any_of HT_.out (by kernel_rfl)) (fun _ _ _ h => h) (Or.inl ⟨by rfl, ?_⟩) ?_ ?_
      rotate_left
      ·
       intro w'
       go_simp
       with_reducible rfl
      rotate_left
      ·
       simp only [Act.put, List.setIfInBounds_toArray, List.set_cons_zero, List.set_cons_succ, i64_w, i32_w]
       rfl
      refine take_ (i := 6) (N := some 22) (v := ?_) (a' := ?_) #[true, true, true, true, true, true, true, false, false, false, false, false] rfl rfl (take_ofW HT_.out HW_.out (by kernel_rfl)) (fun _ _ _ h => h) (Or.inl ⟨by rfl, ?_⟩) hHeld ?_ ?_
      rotate_left
      ·
       rintro w' ⟨s0, s1, s2, s3, s4⟩
       go_simp
       with_reducible rfl
      rotate_left
      ·
       simp only [Act.put, List.setIfInBounds_toArray, List.set_cons_zero, List.set_cons_succ, i64_w, i32_w]
       rfl
      refine one_ (i := 7) (N := some 23) #[true, true, true, true, true, true, true, true, false, false, false, false] rfl rfl (one_of HT_.out (by kernel_rfl)) (by decide) (fun K hK => ?_)
      refine goes_ Try.func27 (by kernel_rfl) rfl #[.slice A192_0 (rd_L1 l0_0 x4_1).length c192_0] (by rfl) rfl rfl (by (try simp only [List.map_toArray, List.map_cons, List.map_nil]); first | done | rfl | (simp only [List.length_drop, List.length_take]; rfl)) ?_
      with_reducible refine (fanlightplain_CopyBytes.calls _ _ (rd_L1 l0_0 x4_1) t193 _ ?side1 ?side2 A15.out).mono ?_
      (case side1 => repeat (first | exact (Kd.C_below HR192_0.out HB.out) | (with_reducible refine Kd.C_alloc ?_ _) | (with_reducible refine Kd.C_drewN ?_ _) | (with_reducible refine Kd.C_drew ?_)))
      (case side2 => exact HC192_0.out)
      rintro e w21 ⟨v194, rfl, ho0, hb⟩
      have HNB := Aside0.mk (fun k_ (hk_ : (v194 : Value).ownBlock = some k_) => Nat.le_trans HN.out (Kd.R_base ho0 k_ hk_))
      replace HN := Aside0.mk (Nat.le_trans HN.out hb.size)
      refine ⟨_, rfl, ?_⟩
      have n0_ := Aside0.mk (Kd.S_elder' (by (with_reducible repeat (first | apply Kd.S_alloc | apply Kd.S_drewN | apply Kd.S_drew)); exact HO_192000.out) (Kd.R_base ho0) hb)
      have n1_ := Aside0.mk (Kd.S_elder' (by (with_reducible repeat (first | apply Kd.S_alloc | apply Kd.S_drewN | apply Kd.S_drew)); exact HO_192001.out) (Kd.R_base ho0) hb)
      have n2_ := Aside0.mk (Kd.R_lower ho0 (below_size (by repeat (first | (with_reducible first | exact HB.out | apply below_alloc | apply pw_below_drewN | apply below_drew1 | refine below_set ?_ GE186.out | refine below_set ?_ GE187.out | refine below_set ?_ GE191.out) | exact HB.out))))
      have n3_ := Aside0.mk (blk_below (g := gb186) (o := .cells #[.slice (some ad192) l0_0.length c0_0, .slice A0_1 l0_1.length c0_1] 55 (0, 0)) (by (with_reducible repeat (first | refine blk_drewN ?_ _ | refine blk_drew ?_ | refine blk_alloc ?_ _)); exact BK186.out) hb)
      have n4_ := Aside0.mk (blk_below (g := gb187) (o := .cells #[.slice none 0 0, .slice none 0 0] 58 (0, 0)) (by (with_reducible repeat (first | refine blk_drewN ?_ _ | refine blk_drew ?_ | refine blk_alloc ?_ _)); exact BK187.out) hb)
      have n5_ := Aside0.mk (blk_below (g := gb191) (o := .cells #[u192000, .slice Ao8 t188.length co8] 58 (0, 0)) (by (with_reducible repeat (first | refine blk_drewN ?_ _ | refine blk_drew ?_ | refine blk_alloc ?_ _)); exact BK191.out) hb)
      have n6_ := Aside0.mk (below_step (by repeat (first | (with_reducible first | exact HB.out | apply below_alloc | apply pw_below_drewN | apply below_drew1 | refine below_set ?_ GE186.out | refine below_set ?_ GE187.out | refine below_set ?_ GE191.out) | exact HB.out)) hb)
      clear HO_192000
      clear HO_192001
      clear BK186
      clear BK187
      clear BK191
      clear HB
      have HO_192000 := n0_
      have HO_192001 := n1_
      have HO195 := n2_
      have BK186 := n3_
      have BK187 := n4_
      have BK191 := n5_
      have HB := n6_
      clear n0_ n1_ n2_ n3_ n4_ n5_ n6_
      (try clear hb)
      (try clear hb2)
      (try clear hk)
      (try clear hi)
      (try clear ho0)
      obtain ⟨Ao23, co23, eo23⟩ := Kd.R_slice HO195.out
      (first | subst eo23 | (injection eo23 with f1_ f2_ f3_; have f4_ := f1_.symm; have f5_ := f3_.symm; clear f1_ f2_ f3_; subst f4_; subst f5_))
      refine hK.out _ _ ⟨(blk_cell BK191.out 0).trans rfl, (blk_cell BK191.out 1).trans rfl, (blk_cell BK186.out 0).trans rfl, (blk_cell BK186.out 1).trans rfl, ((HB.out.cell (World.block_lt_of_cell? w _ hw192_0)).trans hw192_0)⟩ (fun hHeld => ?_)
      clear hK K
      refine norm_ (a' := ?_) ?_ ?_
      rotate_left
      ·
       show Act.put _ (some 23) _ = _
       simp only [Act.put, List.setIfInBounds_toArray, List.set_cons_zero, List.set_cons_succ, i64_w, i32_w]
       rfl
      refine one_ (i := 8) (N := some 24) #[true, true, true, true, true, true, true, true, true, false, false, false] rfl rfl (one_of HT_.out (by kernel_rfl)) (by decide) (fun K hK => ?_)
      refine value_ (w1 := ?_) (v := ?_) (by rfl) rfl ?_ ?_
      rotate_left 2
      ·
       go_simp
       constructor
       ·
        rfl
       ·
        rfl
      refine hK.out _ _ ⟨(blk_cell (blk_alloc BK191.out _) 0).trans rfl, (blk_cell (blk_alloc BK191.out _) 1).trans rfl, (blk_cell (blk_alloc BK186.out _) 0).trans rfl, (blk_cell (blk_alloc BK186.out _) 1).trans rfl, (World.cell?_alloc_lt _ _ _ (World.block_lt_of_cell? _ _ (((HB.out.cell (World.block_lt_of_cell? w _ hw192_0)).trans hw192_0)))).trans (((HB.out.cell (World.block_lt_of_cell? w _ hw192_0)).trans hw192_0))⟩ (fun hHeld => ?_)
      clear hK K
      refine norm_ (a' := ?_) ?_ ?_
      rotate_left
      ·
       show Act.put _ (some 24) _ = _
       simp only [Act.put, List.setIfInBounds_toArray, List.set_cons_zero, List.set_cons_succ, i64_w, i32_w]
       rfl
      refine one_ (i := 9) (N := some 25) #[true, true, true, true, true, true, true, true, true, true, false, false] rfl rfl (one_of HT_.out (by kernel_rfl)) (by decide) (fun K hK => ?_)
      refine Kd.S_append_step (Kd.slice 5 (Kd.int .u8)) (w0 := w) w.heap.size (by rfl) (.tmp 17) (.tmp 24) 52 22 (.slice none 0 0) 24 rfl Try.underlying52 info22 rfl (by decide) (by omega) u192000 x192000_1 t193 [.slice Ao23 t193.length co23] (fun k_ => N1 ≤ k_) (fun k_ => some k_ = (.slice Ao23 t193.length co23 : Value).ownBlock) rfl rfl ?aP (fun k_ hk_ => ⟨HNB.out k_ hk_.symm, (((Kd.R_mono (ok' := fun k_ => ((fun _ => True)) k_ ∧ some k_ ≠ (u192000 : Value).ownBlock) (Kd.R_apart' (HO195.out) (Kd.S_typed HO_192000.out) (by decide)) (fun k_ hk => ⟨trivial, hk.2⟩))).1 k_ hk_.symm).2⟩) ?aF ?aO ?aB ?aS ?aL ?_
      (case aP => exact Kd.M_row (Kd.R_mono (Kd.R_tight rfl (Kd.R_mono (ok' := fun k_ => ((fun _ => True)) k_ ∧ some k_ ≠ (u192000 : Value).ownBlock) (Kd.R_apart' (HO195.out) (Kd.S_typed HO_192000.out) (by decide)) (fun k_ hk => ⟨trivial, hk.2⟩))) (fun _ h_ => h_)))
      (case aB => exact (by repeat (first | (with_reducible first | exact HB.out | apply below_alloc | apply pw_below_drewN | apply below_drew1 | refine below_set ?_ GE186.out | refine below_set ?_ GE187.out | refine below_set ?_ GE191.out) | exact HB.out)))
      (case aF => exact (fun k_ hk_ => Nat.le_trans HN.out hk_))
      (case aO => exact (by (with_reducible repeat (first | apply Kd.S_alloc | apply Kd.S_drewN | apply Kd.S_drew)); exact Kd.S_mono HO_192000.out (fun k_ hk => ⟨hk.1, fun e_ => hk.2 e_⟩)))
      (case aS => exact (below_size (by repeat (first | (with_reducible first | exact HB.out | apply below_alloc | apply pw_below_drewN | apply below_drew1 | refine below_set ?_ GE186.out | refine below_set ?_ GE187.out | refine below_set ?_ GE191.out) | exact HB.out))))
      (case aL => have := LMc16.out; omega)
      intro v197 w22 ho hb hg hat
      replace HN := Aside0.mk (Nat.le_trans (Nat.le_trans HN.out (by first | exact Nat.le_refl _ | (simp; done) | (simp; omega))) hg.size)
      rw [← Ny196.out] at ho
      have n0_ := Aside0.mk (Kd.S_over' (by (with_reducible repeat (first | apply Kd.S_alloc | apply Kd.S_drewN | apply Kd.S_drew)); exact HO_192001.out) (Kd.S_typed (by (with_reducible repeat (first | apply Kd.S_alloc | apply Kd.S_drewN | apply Kd.S_drew)); exact HO_192000.out)) (by decide) hg)
      have n1_ := Aside0.mk (blk_grown (g := gb186) (o := .cells #[.slice (some ad192) l0_0.length c0_0, .slice A0_1 l0_1.length c0_1] 55 (0, 0)) (by (with_reducible repeat (first | refine blk_drewN ?_ _ | refine blk_drew ?_ | refine blk_alloc ?_ _)); exact BK186.out) hg (Kd.S_ne HO_192000.out BK186.out (by decide)))
      have n2_ := Aside0.mk (blk_grown (g := gb187) (o := .cells #[.slice none 0 0, .slice none 0 0] 58 (0, 0)) (by (with_reducible repeat (first | refine blk_drewN ?_ _ | refine blk_drew ?_ | refine blk_alloc ?_ _)); exact BK187.out) hg (Kd.S_ne HO_192000.out BK187.out (by decide)))
      have n3_ := Aside0.mk (blk_grown (g := gb191) (o := .cells #[u192000, .slice Ao8 t188.length co8] 58 (0, 0)) (by (with_reducible repeat (first | refine blk_drewN ?_ _ | refine blk_drew ?_ | refine blk_alloc ?_ _)); exact BK191.out) hg (Kd.S_ne HO_192000.out BK191.out (by decide)))
      have n4_ := Aside0.mk (hb)
      have n5_ := Aside0.mk (ho)
      clear HO_192001
      clear BK186
      clear BK187
      clear BK191
      clear HB
      clear HO_192000
      clear HO195
      have HO_192001 := n0_
      have BK186 := n1_
      have BK187 := n2_
      have BK191 := n3_
      have HB := n4_
      have HO198 := n5_
      clear n0_ n1_ n2_ n3_ n4_ n5_
      clear ho hb hg hat
      obtain ⟨Ao24, co24, eo24⟩ := Kd.S_slice HO198.out
      (first | subst eo24 | (injection eo24 with f1_ f2_ f3_; have f4_ := f1_.symm; have f5_ := f3_.symm; clear f1_ f2_ f3_; subst f4_; subst f5_))
      refine hK.out _ _ ⟨(blk_cell BK191.out 0).trans rfl, (blk_cell BK191.out 1).trans rfl, (blk_cell BK186.out 0).trans rfl, (blk_cell BK186.out 1).trans rfl, ((HB.out.cell (World.block_lt_of_cell? w _ hw192_0)).trans hw192_0)⟩ (fun hHeld => ?_)
      clear hK K
      refine norm_ (a' := ?_) ?_ ?_
      rotate_left
      ·
       show Act.put _ (some 25) _ = _
       simp only [Act.put, List.setIfInBounds_toArray, List.set_cons_zero, List.set_cons_succ, i64_w, i32_w]
       rfl
      refine pure_ (i := 10) (N := some 26) (v := ?_) (a' := ?_) #[true, true, true, true, true, true, true, true, true, true, true, false] rfl rfl (any_of HT_.out (by kernel_rfl)) (fun _ _ _ h => h) (Or.inl ⟨by rfl, ?_⟩) ?_ ?_
      rotate_left
      ·
       intro w'
       go_simp
       with_reducible rfl
      rotate_left
      ·
       simp only [Act.put, List.setIfInBounds_toArray, List.set_cons_zero, List.set_cons_succ, i64_w, i32_w]
       rfl
      refine last_ (i := 11) (N := none) #[true, true, true, true, true, true, true, true, true, true, true, true] rfl rfl (one_of HT_.out (by kernel_rfl)) (by decide) (fun K hK => ?_)
      have hs25 : w22.cell? ⟨gb191, 0, none⟩ = some (u192000) := (blk_cell BK191.out 0).trans rfl
      have hfs25 := blk_frozen BK191.out 0
      have hns25_0 := NB186_191.out
      have hns25_1 := NB187_191.out
      have hms25_0 := NB191_186.out
      have hms25_1 := NB191_187.out
      refine skip_ (w1 := ?_) (by rfl) rfl ?_ ?_
      rotate_left
      ·
       go_simp
       rfl
      refine hK.out _ _ ?_
      clear hK K
      refine done_ (done_of HT_.out (by kernel_rfl)) ?_
      try go_wp2
      go_roundg k1
      case measure => have := HK1.out; omega
      case rel => exact ⟨(wrap64 (x4_1 + 1)), (y196), (.slice Ao24 y196.length co24), (by first | rfl | (simp; done) | (simp [*]; done)), H', ⟨by have := HK1.out; omega⟩, ⟨by (with_reducible repeat (first | apply Kd.S_alloc | apply Kd.S_drewN | apply Kd.S_drew)); exact Kd.S_mono (Kd.S_far (p := ⟨gb191, 0, none⟩) (Kd.S_types HO198.out BK191.out (by decide)) (fun _ hk => hk.2) (.slice Ao24 y196.length co24)) (fun _ hk => hk.1)⟩, ⟨by (with_reducible repeat (first | apply Kd.S_alloc | apply Kd.S_drewN | apply Kd.S_drew)); exact Kd.S_mono (Kd.S_far (p := ⟨gb191, 0, none⟩) (Kd.S_types HO_192001.out BK191.out (by decide)) (fun _ hk => hk.2) (.slice Ao24 y196.length co24)) (fun _ hk => hk.1.1)⟩, ⟨by have := HN.out; simpa using this⟩, ⟨by (with_reducible repeat (first | refine blk_drewN ?_ _ | refine blk_drew ?_ | refine blk_alloc ?_ _)); refine blk_far ?_ NB186_191.out _; (with_reducible repeat (first | refine blk_drewN ?_ _ | refine blk_drew ?_ | refine blk_alloc ?_ _)); exact BK186.out⟩, ⟨by (with_reducible repeat (first | refine blk_drewN ?_ _ | refine blk_drew ?_ | refine blk_alloc ?_ _)); refine blk_far ?_ NB187_191.out _; (with_reducible repeat (first | refine blk_drewN ?_ _ | refine blk_drew ?_ | refine blk_alloc ?_ _)); exact BK187.out⟩, ⟨by (with_reducible repeat (first | refine blk_drewN ?_ _ | refine blk_drew ?_ | refine blk_alloc ?_ _)); refine blk_put (cs := #[u192000, .slice Ao8 t188.length co8]) ?_ 0 _ rfl; (with_reducible repeat (first | refine blk_drewN ?_ _ | refine blk_drew ?_ | refine blk_alloc ?_ _)); exact BK191.out⟩, ⟨by repeat (first | (with_reducible first | exact HB.out | apply below_alloc | apply pw_below_drewN | apply below_drew1 | refine below_set ?_ GE186.out | refine below_set ?_ GE187.out | refine below_set ?_ GE191.out) | exact HB.out)⟩⟩
     ·
      rw [if_neg c16] at H
      exact absurd H (by simp)
    ·
     rw [if_neg c14] at H
     exact absurd H (by simp)
   ·
    rw [if_neg c13] at H
    have c13b0 : decide (x4_1 < (l0_0.length : Int)) = false := decide_eq_false c13
    clear c13
    simp only [Option.some.injEq, Prod.mk.injEq] at H
    obtain ⟨rfl, rfl⟩ := H
    have hnb26 := NB186_187.out
    have hnc26 := NB187_186.out
    have hnb27 := NB186_191.out
    have hnc27 := NB191_186.out
    have hcz28_0 : wr.cell? ⟨gb186, 0, none⟩ = some (.slice A0_0 l0_0.length c0_0) := (blk_cell BK186.out 0).trans rfl
    have hcz28_1 : wr.cell? ⟨gb186, 1, none⟩ = some (.slice A0_1 l0_1.length c0_1) := (blk_cell BK186.out 1).trans rfl
    have hfz28_0 := blk_frozen BK186.out 0
    have hfz28_1 := blk_frozen BK186.out 1
    have hnb29 := NB191_187.out
    have hnc29 := NB187_191.out
    have hcz30_0 : wr.cell? ⟨gb191, 0, none⟩ = some (u192000) := (blk_cell BK191.out 0).trans rfl
    have hcz30_1 : wr.cell? ⟨gb191, 1, none⟩ = some (.slice Ao8 t188.length co8) := (blk_cell BK191.out 1).trans rfl
    have hfz30_0 := blk_frozen BK191.out 0
    have hfz30_1 := blk_frozen BK191.out 1
    obtain ⟨Ao31, co31, eo31⟩ := Kd.S_slice HO_192000.out
    subst eo31
    have hcz32_0 : wr.cell? ⟨gb187, 0, none⟩ = some (.slice none 0 0) := (blk_cell BK187.out 0).trans rfl
    have hcz32_1 : wr.cell? ⟨gb187, 1, none⟩ = some (.slice none 0 0) := (blk_cell BK187.out 1).trans rfl
    have hfz32_0 := blk_frozen BK187.out 0
    have hfz32_1 := blk_frozen BK187.out 1
    go_wp2
    refine bodyPost_ret (results_cell_row rfl _ _ gb187 58 #[.slice Ao31 x192000_1.length co31, .slice Ao8 t188.length co8] (0, 0) _ rfl (by (with_reducible repeat (first | refine blk_drewN ?_ _ | refine blk_drew ?_ | refine blk_alloc ?_ _)); refine blk_put (cs := #[.slice Ao31 x192000_1.length co31, .slice none 0 0]) ?_ 1 _ rfl; (with_reducible repeat (first | refine blk_drewN ?_ _ | refine blk_drew ?_ | refine blk_alloc ?_ _)); refine blk_put (cs := #[.slice none 0 0, .slice none 0 0]) ?_ 0 _ rfl; (with_reducible repeat (first | refine blk_drewN ?_ _ | refine blk_drew ?_ | refine blk_alloc ?_ _)); exact BK187.out) Try.underlying58 rfl (by kernel_rfl)) rfl ?_
    exact ⟨_, _, fun k_ => N1 ≤ k_, by first | rfl | (simp [errW_none, errW_some] <;> rfl) | (simp [*, errW_none, errW_some] <;> rfl), by (with_reducible repeat (first | apply Kd.S_alloc | apply Kd.S_drewN | apply Kd.S_drew)); exact Kd.S_mono (Kd.S_far (p := ⟨gb187, 1, none⟩) (Kd.S_far (p := ⟨gb187, 0, none⟩) (Kd.S_types HO_192000.out BK187.out (by decide)) (fun _ hk => hk.2) (.slice Ao31 x192000_1.length co31)) (fun _ hk => hk.2) (.slice Ao8 t188.length co8)) (fun _ hk => hk.1), by (with_reducible repeat (first | apply Kd.S_alloc | apply Kd.S_drewN | apply Kd.S_drew)); exact Kd.S_mono (Kd.S_far (p := ⟨gb187, 1, none⟩) (Kd.S_far (p := ⟨gb187, 0, none⟩) (Kd.S_types HO_192001.out BK187.out (by decide)) (fun _ hk => hk.2) (.slice Ao31 x192000_1.length co31)) (fun _ hk => hk.2) (.slice Ao8 t188.length co8)) (fun _ hk h_ => by have := hk.1; omega), by repeat (first | (with_reducible first | exact HB.out | apply below_alloc | apply pw_below_drewN | apply below_drew1 | refine below_set ?_ GE186.out | refine below_set ?_ GE187.out | refine below_set ?_ GE191.out) | exact HB.out)⟩
def SpB : Nat := 140737488355327
set_option maxRecDepth 100000 in
set_option maxHeartbeats 4000000 in
theorem diskown1 (k : Nat) (A0 : Option Addr) (c0 : Nat) (secs : List (List Int)) (A1 : Option Addr) (c1 : Nat) (cache : List S57) (x : S57) (A2 : Option Addr) (c2 : Nat) (X1 : List (List Int)) (X2 : List S57) (X3 : Int) (w : World)
  (hr0 : Kd.C (Kd.slice 5 (Kd.int .u8)) w A0 secs.length secs) (hc0 : secs.length ≤ c0) (hr1 : Kd.C k57 w A1 cache.length cache) (hc1 : cache.length ≤ c1) (hr2 : Kd.C (Kd.int .u8) w A2 x.f2.length x.f2) (hc2 : x.f2.length ≤ c2)
  (hlive : fanlightlaw05_alive.f k = some true) (hof : fanlightlaw05_Of.f k secs cache = some (secs, cache)) (hcp : fanlightplain_CopyBytes.f x.f2 = some x.f2) (hdo : disk_Do.f secs cache x.f0 x.f1 x.f2 = some (X1, X2, X3)) (hrf : fanlightref05_Do.f k secs cache x.f0 x.f1 x.f2 = some (X1, X2, X3)) (hal : fanlightlaw05_Alike.f k X1 X2 X1 X2 = some 0)
  (hsp : ∀ l : List Int, l.length ≤ SpB → ∃ q, q.length = l.length ∧ fanlightplain_Spoil.f k l = some q) (hl0 : secs.length ≤ 5864062014800) (hls : ∀ s ∈ secs, s.length ≤ SpB) (hl1 : cache.length ≤ 3518437208880) (hlc : ∀ y ∈ cache, y.f2.length ≤ SpB) (hl2 : x.f2.length ≤ SpB) :
  Calls Try.prog 11 #[.agg #[.slice A0 secs.length c0, .slice A1 cache.length c1], .agg #[.bool x.f0, .int .i64 x.f1, .slice A2 x.f2.length c2]] w fun e w' => e = .returned (.bool true) ∧ Below w.heap.size w w' := by
 have HLIVE := Aside0.mk (fun (W : World) => fanlightlaw05_alive.calls k true W hlive rfl)
 have HOF := Aside0.mk (fun (W : World) (hW : Below w.heap.size w W) => fanlightlaw05_Of.calls2 k A0 c0 secs A1 c1 cache secs cache W (Kd.C_below hr0 hW) hc0 (Kd.C_below hr1 hW) hc1 hof)
 have HCP := Aside0.mk (fun (W : World) (hW : Below w.heap.size w W) => fanlightplain_CopyBytes.calls A2 c2 x.f2 x.f2 W (Kd.C_below hr2 hW) hc2 hcp)
 have HDO := Aside0.mk (fun (A B C : Option Addr) (c d e : Nat) (W : World) (h1 : Kd.C (Kd.slice 5 (Kd.int .u8)) W A secs.length secs) (h2 : secs.length ≤ c) (h3 : Kd.C k57 W B cache.length cache) (h4 : cache.length ≤ d) (h5 : Kd.C (Kd.int .u8) W C x.f2.length x.f2) (h6 : x.f2.length ≤ e) => disk_Do.calls A c secs B d cache x.f0 x.f1 C e x.f2 X1 X2 X3 W h1 h2 h3 h4 h5 h6 hdo)
 have HRF := Aside0.mk (fun (W : World) (hW : Below w.heap.size w W) => fanlightref05_Do.calls k A0 c0 secs A1 c1 cache x.f0 x.f1 A2 c2 x.f2 X1 X2 X3 W (Kd.C_below hr0 hW) hc0 (Kd.C_below hr1 hW) hc1 (Kd.C_below hr2 hW) hc2 hrf)
 have HAL := Aside0.mk hal
 have HSP := Aside0.mk hsp
 have HLS := Aside0.mk hls
 have HLC := Aside0.mk hlc
 have HL2 := Aside0.mk hl2
 clear hr0 hc0 hr1 hc1 hr2 hc2 hlive hof hcp hdo hrf hal hsp hls hlc hl2
 obtain ⟨n0, hn0⟩ : ∃ n, secs.length = n := ⟨_, rfl⟩
 obtain ⟨n1, hn1⟩ : ∃ n, cache.length = n := ⟨_, rfl⟩
 obtain ⟨m, hm⟩ : ∃ m, x.f2.length = m := ⟨_, rfl⟩
 obtain ⟨z0, hz0⟩ : ∃ z, x.f0 = z := ⟨_, rfl⟩
 obtain ⟨z1, hz1⟩ : ∃ z, x.f1 = z := ⟨_, rfl⟩
 have HN0 := Lib.hid hn0
 have HN1 := Lib.hid hn1
 have HM := Lib.hid hm
 rw [hn0, hn1] at HOF HDO HRF
 rw [hm] at HCP HDO HRF
 rw [hz0, hz1] at HDO HRF
 rw [hn0] at hl0
 rw [hn1] at hl1
 rw [hn0, hn1, hm, hz0, hz1]
 clear hn0 hn1 hm hz0 hz1
 obtain ⟨W1, hW1⟩ : ∃ W, (w.alloc (.cells #[.slice A0 n0 c0, .slice A1 n1 c1] 55)).alloc (.cells #[.bool z0, .int .i64 z1, .slice A2 m c2] 57) = W := ⟨_, rfl⟩
 have hb1 : Below w.heap.size w W1 := by rw [← hW1]; exact below_alloc (below_alloc (Below.refl _ _) _) _
 have hsz : W1.heap.size = w.heap.size + 2 := by rw [← hW1]; simp
 have HX0 := Aside0.mk (show W1.heap[w.heap.size]? = some (.cells #[.slice A0 n0 c0, .slice A1 n1 c1] 55 (0, 0)) by rw [← hW1]; exact blk_alloc (blk_new rfl) _)
 have HX1 := Aside0.mk (show W1.heap[w.heap.size + 1]? = some (.cells #[.bool z0, .int .i64 z1, .slice A2 m c2] 57 (0, 0)) by rw [← hW1]; exact blk_new (by simp))
 have HB0 := Aside0.mk hb1
 have HSZ := Aside0.mk hsz
 clear hb1 hsz
 go_enter Try.func11, Try.ntmps11
 go_wp2_with fail
 refine (HLIVE.out _).mono ?_
 rintro e wA ⟨rfl, hbA⟩
 have HB1 := Aside0.mk (HB0.out.trans (hbA.mono HB0.out.size))
 have HX01 := Aside0.mk (blk_below HX0.out hbA)
 have HX11 := Aside0.mk (blk_below HX1.out hbA)
 have x0 : wA.cell? ⟨w.heap.size, 0, none⟩ = some (.slice A0 n0 c0) := blk_cell HX01.out 0
 have x1 : wA.cell? ⟨w.heap.size, 1, none⟩ = some (.slice A1 n1 c1) := blk_cell HX01.out 1
 clear hbA HB0 HX0 HX1 hW1 HSZ
 go_wp2_with fail
 refine (HOF.out _ HB1.out).mono ?_
 rintro e wB ⟨v0, v1, P, rfl, hS0, hS1, hbB⟩
 obtain ⟨AO, cO, rfl⟩ := Kd.S_slice hS0
 obtain ⟨AC, cC, rfl⟩ := Kd.S_slice hS1
 rw [HN0.out] at hS0 ⊢
 rw [HN1.out] at hS1 ⊢
 obtain ⟨W4, hW4⟩ : ∃ W, wB.alloc (.cells #[.slice AO n0 cO, .slice AC n1 cC] 58) = W := ⟨_, rfl⟩
 obtain ⟨N3, hN3⟩ : ∃ N, wB.heap.size = N := ⟨_, rfl⟩
 have hal4 := below_alloc (Below.refl wB.heap.size wB) (.cells #[.slice AO n0 cO, .slice AC n1 cC] 58)
 have h54 : W4.heap[N3]? = some (.cells #[.slice AO n0 cO, .slice AC n1 cC] 58 (0, 0)) := by rw [← hW4, ← hN3]; exact blk_new rfl
 rw [hW4] at hal4
 have hgA : w.heap.size + 2 ≤ wA.heap.size := by have := blk_lt HX11.out; omega
 obtain ⟨PO, hPO⟩ : ∃ PO : Nat → Prop, PO = fun k => P k ∧ w.heap.size + 2 ≤ k ∧ k < N3 := ⟨_, rfl⟩
 have hPa : ∀ k, PO k → w.heap.size + 2 ≤ k ∧ k < N3 := fun k h => by rw [hPO] at h; exact h.2
 have hS04 := Kd.S_below (Kd.S_lower (Kd.S_mono (Kd.S_bound hS0) (ok' := PO) (fun k hk => by rw [hPO]; exact ⟨hk.1, by have := hk.2.1; omega, by rw [← hN3]; exact hk.2.2.1⟩)) (show w.heap.size ≤ wA.heap.size by omega)) hal4
 have hS14 := Kd.S_below (Kd.S_lower (Kd.S_mono (Kd.S_bound hS1) (ok' := fun k => ¬ PO k ∧ w.heap.size + 2 ≤ k ∧ k < N3) (fun k hk => ⟨fun h => by rw [hPO] at h; exact hk.1 h.1, by have := hk.2.1; omega, by rw [← hN3]; exact hk.2.2.1⟩)) (show w.heap.size ≤ wA.heap.size by omega)) hal4
 have HPA := Aside0.mk hPa
 have HS04 := Aside0.mk hS04
 have HS14 := Aside0.mk hS14
 have X04 := Aside0.mk (blk_below (blk_below HX01.out hbB) hal4)
 have X14 := Aside0.mk (blk_below (blk_below HX11.out hbB) hal4)
 have X54 := Aside0.mk h54
 have B4 := Aside0.mk ((HB1.out.trans (hbB.mono HB1.out.size)).trans (hal4.mono (by have := hbB.size; omega)))
 have Z4 : Aside0 (W4.heap.size = N3 + 1) := ⟨by rw [← hW4, ← hN3]; simp⟩
 have Z3 : Aside0 (w.heap.size + 2 ≤ N3) := ⟨by have := hbB.size; omega⟩
 clear hS0 hS1 hbB HX01 HX11 hal4 h54 hPO hPa hS04 hS14 HB1 x0 x1 hgA
 go_wp2_with fail
 have X14 := Aside0.mk (blk_drew X14.out)
 have B4d := Aside0.mk (below_drew (Below.refl W4.heap.size W4))
 refine start_ (n := 10) (S := fun w' => w'.cell? ⟨w.heap.size + 1, 0, none⟩ = some (.bool z0) ∧ w'.cell? ⟨w.heap.size + 1, 1, none⟩ = some (.int .i64 z1) ∧ w'.cell? ⟨w.heap.size + 1, 2, none⟩ = some (.slice A2 m c2)) (ds := [9]) #[false, false, false, false, false, false, false, false, false, false] (by kernel_rfl) rfl rfl ⟨(blk_cell X14.out 0).trans rfl, (blk_cell X14.out 1).trans rfl, (blk_cell X14.out 2).trans rfl⟩ (fun hHeld => ?_)
 generalize W4.drew = W5 at X14 B4d hHeld ⊢
 refine pure_ (i := 0) (N := some 17) (v := ?_) (a' := ?_) #[true, false, false, false, false, false, false, false, false, false] rfl rfl (by kernel_rfl) (fun _ _ _ h => h) (Or.inl ⟨by rfl, ?_⟩) ?_ ?_
 rotate_left
 ·
  intro w'
  go_simp
  with_reducible rfl
 rotate_left
 ·
  simp only [Act.put, List.setIfInBounds_toArray, List.set_cons_zero, List.set_cons_succ, i64_w, i32_w]
  rfl
 refine pure_ (i := 2) (N := some 19) (v := ?_) (a' := ?_) #[true, false, true, false, false, false, false, false, false, false] rfl rfl (by kernel_rfl) (fun _ _ _ h => h) (Or.inl ⟨by rfl, ?_⟩) ?_ ?_
 rotate_left
 ·
  intro w'
  go_simp
  with_reducible rfl
 rotate_left
 ·
  simp only [Act.put, List.setIfInBounds_toArray, List.set_cons_zero, List.set_cons_succ, i64_w, i32_w]
  rfl
 refine pure_ (i := 4) (N := some 21) (v := ?_) (a' := ?_) #[true, false, true, false, true, false, false, false, false, false] rfl rfl (by kernel_rfl) (fun _ _ _ h => h) (Or.inl ⟨by rfl, ?_⟩) ?_ ?_
 rotate_left
 ·
  intro w'
  go_simp
  with_reducible rfl
 rotate_left
 ·
  simp only [Act.put, List.setIfInBounds_toArray, List.set_cons_zero, List.set_cons_succ, i64_w, i32_w]
  rfl
 refine take_ (i := 1) (N := some 18) (v := ?_) (a' := ?_) #[true, true, true, false, true, false, false, false, false, false] rfl rfl (by kernel_rfl) (fun _ _ _ h => h) (Or.inl ⟨by rfl, ?_⟩) hHeld ?_ ?_
 rotate_left
 ·
  rintro w' ⟨s0, s1, s2⟩
  go_simp
  with_reducible rfl
 rotate_left
 ·
  simp only [Act.put, List.setIfInBounds_toArray, List.set_cons_zero, List.set_cons_succ, i64_w, i32_w]
  rfl
 refine take_ (i := 3) (N := some 20) (v := ?_) (a' := ?_) #[true, true, true, true, true, false, false, false, false, false] rfl rfl (by kernel_rfl) (fun _ _ _ h => h) (Or.inl ⟨by rfl, ?_⟩) hHeld ?_ ?_
 rotate_left
 ·
  rintro w' ⟨s0, s1, s2⟩
  go_simp
  with_reducible rfl
 rotate_left
 ·
  simp only [Act.put, List.setIfInBounds_toArray, List.set_cons_zero, List.set_cons_succ, i64_w, i32_w]
  rfl
 refine take_ (i := 5) (N := some 22) (v := ?_) (a' := ?_) #[true, true, true, true, true, true, false, false, false, false] rfl rfl (by kernel_rfl) (fun _ _ _ h => h) (Or.inl ⟨by rfl, ?_⟩) hHeld ?_ ?_
 rotate_left
 ·
  rintro w' ⟨s0, s1, s2⟩
  go_simp
  with_reducible rfl
 rotate_left
 ·
  simp only [Act.put, List.setIfInBounds_toArray, List.set_cons_zero, List.set_cons_succ, i64_w, i32_w]
  rfl
 have B5 := Aside0.mk (B4.out.trans (B4d.out.mono B4.out.size))
 refine join_ (σ := Option Addr × Nat × Nat) 1 #[true, true, true, true, true, true, true, true, true, false] (fun s_ => [(23, .slice s_.1 x.f2.length s_.2.1), (24, .agg #[.bool z0, .int .i64 z1, .slice s_.1 x.f2.length s_.2.1]), (6, .pointer (some ⟨s_.2.2, 0, none⟩))]) (fun s_ w' => (w'.cell? ⟨w.heap.size + 1, 0, none⟩ = some (.bool z0) ∧ w'.cell? ⟨w.heap.size + 1, 1, none⟩ = some (.int .i64 z1) ∧ w'.cell? ⟨w.heap.size + 1, 2, none⟩ = some (.slice A2 m c2)) ∧ Kd.R (Kd.int .u8) 5 w' W5.heap.size (fun _ => True) (.slice s_.1 x.f2.length s_.2.1) x.f2 ∧ w'.heap[s_.2.2]? = some (.cells #[.bool false, .int .i64 0, .slice none 0 0] 57 (0, 0)) ∧ W5.heap.size ≤ s_.2.2 ∧ Below W5.heap.size W5 w') ?_ ?_
 rotate_left
 ·
  intro hCont
  refine two_ (i := 6) (j := 8) (Ni := some 23) (Nj := some 6) #[true, true, true, true, true, true, true, false, false, false] #[true, true, true, true, true, true, false, false, true, false] rfl rfl rfl rfl (by kernel_rfl) (by decide) (by decide) (fun K hK => ?_) (fun K hK => ?_)
  ·
   skip
   refine goes_ Try.func27 (by kernel_rfl) rfl #[.slice A2 m c2] (by rfl) rfl rfl (by (try simp only [List.map_toArray, List.map_cons, List.map_nil]); first | done | rfl | (simp only [List.length_drop, List.length_take]; rfl)) ?_
   refine (HCP.out _ B5.out).mono ?_
   rintro e W6 ⟨v6, rfl, ho6, hb6⟩
   obtain ⟨A6, c6, rfl⟩ := Kd.R_slice ho6
   refine ⟨_, rfl, ?_⟩
   refine hK.out _ _ ⟨(blk_cell (blk_below X14.out hb6) 0).trans rfl, (blk_cell (blk_below X14.out hb6) 1).trans rfl, (blk_cell (blk_below X14.out hb6) 2).trans rfl⟩ (fun hHeld => ?_)
   clear hK K
   refine norm_ (a' := ?_) ?_ ?_
   rotate_left
   ·
    show Act.put _ (some 23) _ = _
    simp only [Act.put, List.setIfInBounds_toArray, List.set_cons_zero, List.set_cons_succ, i64_w, i32_w]
    rfl
   refine pure_ (i := 7) (N := some 24) (v := ?_) (a' := ?_) #[true, true, true, true, true, true, true, true, false, false] rfl rfl (by kernel_rfl) (fun _ _ _ h => h) (Or.inl ⟨by rfl, ?_⟩) ?_ ?_
   rotate_left
   ·
    intro w'
    go_simp
    with_reducible rfl
   rotate_left
   ·
    simp only [Act.put, List.setIfInBounds_toArray, List.set_cons_zero, List.set_cons_succ, i64_w, i32_w]
    rfl
   refine one_ (i := 8) (N := some 6) #[true, true, true, true, true, true, true, true, true, false] rfl rfl (by kernel_rfl) (by decide) (fun K hK => ?_)
   refine box_step ?hg (N := 6) ?hd (cs := #[.bool false, .int .i64 0, .slice none 0 0]) (t := 57) ?hr ?_; (case hd => rfl); (case hg => rfl); (case hr => first | (go_simp; done) | (go_simp; rfl))
   intro gb hg W7 hbox hb7
   have hgb5 : W5.heap.size ≤ gb := by first | (have := hb6.size; omega) | omega
   have hb67 := hb6.trans (hb7.mono (by have := hb6.size; omega))
   refine hK.out _ _ ⟨(blk_cell (blk_below X14.out hb67) 0).trans rfl, (blk_cell (blk_below X14.out hb67) 1).trans rfl, (blk_cell (blk_below X14.out hb67) 2).trans rfl⟩ (fun hHeld => ?_)
   clear hK K
   refine norm_ (a' := ?_) ?_ ?_
   rotate_left
   ·
    show Act.put _ (some 6) _ = _
    simp only [Act.put, List.setIfInBounds_toArray, List.set_cons_zero, List.set_cons_succ, i64_w, i32_w]
    rfl
   exact norm_ (by simp only [putAll, Act.put, List.setIfInBounds_toArray, List.set_cons_zero, List.set_cons_succ]) (hCont (A6, c6, gb) _ ⟨hHeld, Kd.R_below ho6 hb7, hbox, hgb5, hb67⟩)
  ·
   skip
   refine box_step ?hg (N := 6) ?hd (cs := #[.bool false, .int .i64 0, .slice none 0 0]) (t := 57) ?hr ?_; (case hd => rfl); (case hg => rfl); (case hr => first | (go_simp; done) | (go_simp; rfl))
   intro gb hg W6 hbox hb6
   refine hK.out _ _ ⟨(blk_cell (blk_below X14.out hb6) 0).trans rfl, (blk_cell (blk_below X14.out hb6) 1).trans rfl, (blk_cell (blk_below X14.out hb6) 2).trans rfl⟩ (fun hHeld => ?_)
   clear hK K
   refine norm_ (a' := ?_) ?_ ?_
   rotate_left
   ·
    show Act.put _ (some 6) _ = _
    simp only [Act.put, List.setIfInBounds_toArray, List.set_cons_zero, List.set_cons_succ, i64_w, i32_w]
    rfl
   refine one_ (i := 6) (N := some 23) #[true, true, true, true, true, true, true, false, true, false] rfl rfl (by kernel_rfl) (by decide) (fun K hK => ?_)
   refine goes_ Try.func27 (by kernel_rfl) rfl #[.slice A2 m c2] (by rfl) rfl rfl (by (try simp only [List.map_toArray, List.map_cons, List.map_nil]); first | done | rfl | (simp only [List.length_drop, List.length_take]; rfl)) ?_
   refine (HCP.out _ (B5.out.trans (hb6.mono B5.out.size))).mono ?_
   rintro e W7 ⟨v6, rfl, ho7, hb7⟩
   obtain ⟨A6, c6, rfl⟩ := Kd.R_slice ho7
   refine ⟨_, rfl, ?_⟩
   have hb67 := hb6.trans (hb7.mono (by have := hb6.size; omega))
   refine hK.out _ _ ⟨(blk_cell (blk_below X14.out hb67) 0).trans rfl, (blk_cell (blk_below X14.out hb67) 1).trans rfl, (blk_cell (blk_below X14.out hb67) 2).trans rfl⟩ (fun hHeld => ?_)
   clear hK K
   refine norm_ (a' := ?_) ?_ ?_
   rotate_left
   ·
    show Act.put _ (some 23) _ = _
    simp only [Act.put, List.setIfInBounds_toArray, List.set_cons_zero, List.set_cons_succ, i64_w, i32_w]
    rfl
   refine pure_ (i := 7) (N := some 24) (v := ?_) (a' := ?_) #[true, true, true, true, true, true, true, true, true, false] rfl rfl (by kernel_rfl) (fun _ _ _ h => h) (Or.inl ⟨by rfl, ?_⟩) ?_ ?_
   rotate_left
   ·
    intro w'
    go_simp
    with_reducible rfl
   rotate_left
   ·
    simp only [Act.put, List.setIfInBounds_toArray, List.set_cons_zero, List.set_cons_succ, i64_w, i32_w]
    rfl
   exact norm_ (by simp only [putAll, Act.put, List.setIfInBounds_toArray, List.set_cons_zero, List.set_cons_succ]) (hCont (A6, c6, gb) _ ⟨hHeld, Kd.R_lower ho7 hb6.size, blk_below hbox hb7, show W5.heap.size ≤ gb by omega, hb67⟩)
 rintro ⟨A6, c6, gb⟩ W7 ⟨hHeld, hR7, hbox, hgb, hb7⟩
 replace hR7 : Kd.R (Kd.int .u8) 5 W7 W5.heap.size (fun _ => True) (.slice A6 x.f2.length c6) x.f2 := hR7
 replace hbox : W7.heap[gb]? = some (.cells #[.bool false, .int .i64 0, .slice none 0 0] 57 (0, 0)) := hbox
 replace hgb : W5.heap.size ≤ gb := hgb
 refine norm_ (a' := ?_) ?_ ?_
 rotate_left
 ·
  simp only [putAll, Act.put, List.setIfInBounds_toArray, List.set_cons_zero, List.set_cons_succ]
  rfl
 have hgl := blk_lt hbox
 have hR7b := Kd.R_typed hR7
 have HR7 := Aside0.mk (Kd.R_lower (Kd.R_mono (Kd.R_bound (Kd.R_tight rfl hR7)) (ok' := fun q => W5.heap.size ≤ q ∧ q < W7.heap.size ∧ q ≠ gb) (fun q hq => ⟨hq.2.1, hq.2.2.1, fun e => by
  obtain ⟨cells, hc⟩ := hR7b q hq.1.symm
  rw [e, hbox] at hc
  cases hc⟩)) (show w.heap.size ≤ W5.heap.size by have := B5.out.size; omega))
 have hz5 : W4.heap.size ≤ W5.heap.size := B4d.out.size
 have HB47 := Aside0.mk (B4d.out.trans (hb7.mono hz5))
 have y0 : W7.cell? ⟨gb, 0, none⟩ = some (.bool false) := blk_cell hbox 0
 have y1 : W7.cell? ⟨gb, 1, none⟩ = some (.int .i64 0) := blk_cell hbox 1
 have y2 : W7.cell? ⟨gb, 2, none⟩ = some (.slice none 0 0) := blk_cell hbox 2
 have yf : ∀ i, W7.frozen? ⟨gb, i, none⟩ = false := fun i => blk_frozen hbox i
 refine last_ (i := 9) (N := none) #[true, true, true, true, true, true, true, true, true, true] rfl rfl (by kernel_rfl) (by decide) (fun K hK => ?_)
 refine skip_ (w1 := ?_) (by rfl) rfl ?_ ?_
 rotate_left
 ·
  go_simp
  rfl
 refine hK.out _ _ ?_
 clear hK K
 refine done_ (by kernel_rfl) ?_
 have k1 := blk_put (cs' := #[.bool z0, .int .i64 0, .slice none 0 0]) hbox 0 (.bool z0) rfl
 have k2 := blk_put (cs' := #[.bool z0, .int .i64 z1, .slice none 0 0]) k1 1 (.int .i64 z1) rfl
 have k3 := blk_put (cs' := #[.bool z0, .int .i64 z1, .slice A6 x.f2.length c6]) k2 2 (.slice A6 x.f2.length c6) rfl
 have hR8 := Kd.R_far (p := ⟨gb, 2, none⟩) (Kd.R_far (p := ⟨gb, 1, none⟩) (Kd.R_far (p := ⟨gb, 0, none⟩) HR7.out (fun _ hk => hk.2.2) (.bool z0)) (fun _ hk => hk.2.2) (.int .i64 z1)) (fun _ hk => hk.2.2) (.slice A6 x.f2.length c6)
 have hb78 : Below W4.heap.size W4 (((W7.setCell ⟨gb, 0, none⟩ (.bool z0)).setCell ⟨gb, 1, none⟩ (.int .i64 z1)).setCell ⟨gb, 2, none⟩ (.slice A6 x.f2.length c6)) := ((HB47.out.setCell (p := ⟨gb, 0, none⟩) (by dsimp only; omega) _).setCell (p := ⟨gb, 1, none⟩) (by dsimp only; omega) _).setCell (p := ⟨gb, 2, none⟩) (by dsimp only; omega) _
 have hsz8 : (((W7.setCell ⟨gb, 0, none⟩ (.bool z0)).setCell ⟨gb, 1, none⟩ (.int .i64 z1)).setCell ⟨gb, 2, none⟩ (.slice A6 x.f2.length c6)).heap.size = W7.heap.size := by simp
 rw [HM.out] at k3 hR8 hb78 hsz8 ⊢
 generalize ((W7.setCell ⟨gb, 0, none⟩ (.bool z0)).setCell ⟨gb, 1, none⟩ (.int .i64 z1)).setCell ⟨gb, 2, none⟩ (.slice A6 m c6) = W8 at k3 hR8 hb78 hsz8 ⊢
 obtain ⟨N7, hN7⟩ : ∃ N, W7.heap.size = N := ⟨_, rfl⟩
 obtain ⟨N5, hN5⟩ : ∃ N, W5.heap.size = N := ⟨_, rfl⟩
 rw [hN7] at hR8 hsz8 hgl
 rw [hN5] at hR8 hgb
 have Z5 : Aside0 (N3 + 1 ≤ N5 ∧ N5 ≤ gb ∧ gb < N7 ∧ W8.heap.size = N7) := ⟨by have := Z4.out; omega, hgb, hgl, hsz8⟩
 have XG8 := Aside0.mk k3
 have HI8 := Aside0.mk hR8
 have S08 := Aside0.mk (Kd.S_below HS04.out hb78)
 have S18 := Aside0.mk (Kd.S_below HS14.out hb78)
 have X58 := Aside0.mk (blk_below X54.out hb78)
 have X08 := Aside0.mk (blk_below X04.out hb78)
 have B8 := Aside0.mk (B4.out.trans (hb78.mono B4.out.size))
 have X18 := Aside0.mk (show W8.heap[w.heap.size + 1]? = _ from ((hb78.block _ (by have := Z3.out; have := Z4.out; omega)).trans ((B4d.out.block _ (by have := Z3.out; have := Z4.out; omega)).symm)).trans X14.out)
 clear k1 k2 k3 hR8 hb78 hsz8 hgl hgb hz5 hR7b hR7 hbox hb7 y0 y1 y2 yf hHeld HB47 HR7 HS04 HS14 X54 X04 X14 B4 B4d B5 hN7 hN5 hW4 hN3
 have y0 : W8.cell? ⟨gb, 0, none⟩ = some (.bool z0) := blk_cell XG8.out 0
 have y1 : W8.cell? ⟨gb, 1, none⟩ = some (.int .i64 z1) := blk_cell XG8.out 1
 have y2 : W8.cell? ⟨gb, 2, none⟩ = some (.slice A6 m c6) := blk_cell XG8.out 2
 have q0 : W8.cell? ⟨N3, 0, none⟩ = some (.slice AO n0 cO) := blk_cell X58.out 0
 have q1 : W8.cell? ⟨N3, 1, none⟩ = some (.slice AC n1 cC) := blk_cell X58.out 1
 go_wp2_with fail
 have a1 := (Kd.S_reads' S08.out).2.2
 have a2 := (Kd.S_reads' S08.out).2.1
 have a3 := (Kd.S_reads' S18.out).2.2
 have a4 := (Kd.S_reads' S18.out).2.1
 have a5 := (Kd.R_reads' HI8.out).2.2
 have a6 := (Kd.R_reads' HI8.out).2.1
 rw [HN0.out] at a1
 rw [HN1.out] at a3
 rw [HM.out] at a5
 refine (HDO.out _ _ _ _ _ _ W8 a1 a2 a3 a4 a5 a6).mono ?_
 clear a1 a2 a3 a4 a5 a6 q0 q1 y0 y1 y2
 rintro e W9 ⟨va, vb, rfl, hoa, hob, hb9⟩
 obtain ⟨AA, cA, rfl⟩ := Kd.S_slice hoa
 obtain ⟨AB, cB, rfl⟩ := Kd.S_slice hob
 obtain ⟨W10, hW10⟩ : ∃ W, W9.alloc (.cells #[.slice AA X1.length cA, .slice AB X2.length cB] 58) = W := ⟨_, rfl⟩
 obtain ⟨N9, hN9⟩ : ∃ N, W9.heap.size = N := ⟨_, rfl⟩
 have hal := below_alloc (Below.refl W9.heap.size W9) (.cells #[.slice AA X1.length cA, .slice AB X2.length cB] 58)
 have h7 : W10.heap[N9]? = some (.cells #[.slice AA X1.length cA, .slice AB X2.length cB] 58 (0, 0)) := by rw [← hW10, ← hN9]; exact blk_new rfl
 rw [hW10] at hal
 have hb810 : Below W8.heap.size W8 W10 := hb9.trans (hal.mono hb9.size)
 have XA := Aside0.mk h7
 have OA := Aside0.mk (Kd.S_below (Kd.S_lower (Kd.S_mono (Kd.S_bound hoa) (ok' := fun q => N7 ≤ q ∧ q < N9) (fun q hq => ⟨by have := hq.2.1; have := Z5.out.2.2.2; omega, by rw [← hN9]; exact hq.2.2.1⟩)) (show w.heap.size ≤ W8.heap.size by have := B8.out.size; omega)) hal)
 have OB := Aside0.mk (Kd.S_below (Kd.S_lower (Kd.S_mono (Kd.S_bound hob) (ok' := fun q => N7 ≤ q ∧ q < N9) (fun q hq => ⟨by have := hq.2.1; have := Z5.out.2.2.2; omega, by rw [← hN9]; exact hq.2.2.1⟩)) (show w.heap.size ≤ W8.heap.size by have := B8.out.size; omega)) hal)
 have XG10 := Aside0.mk (blk_below XG8.out hb810)
 have HI10 := Aside0.mk (Kd.R_below HI8.out hb810)
 have S010 := Aside0.mk (Kd.S_below S08.out hb810)
 have S110 := Aside0.mk (Kd.S_below S18.out hb810)
 have X510 := Aside0.mk (blk_below X58.out hb810)
 have X010 := Aside0.mk (blk_below X08.out hb810)
 have X110 := Aside0.mk (blk_below X18.out hb810)
 have B10 := Aside0.mk (B8.out.trans (hb810.mono B8.out.size))
 have Z9 : Aside0 (N7 ≤ N9 ∧ W10.heap.size = N9 + 1) := ⟨by have := hb9.size; have := Z5.out.2.2.2; omega, by rw [← hW10, ← hN9]; simp⟩
 have x0 : W10.cell? ⟨w.heap.size, 0, none⟩ = some (.slice A0 n0 c0) := blk_cell X010.out 0
 have x1 : W10.cell? ⟨w.heap.size, 1, none⟩ = some (.slice A1 n1 c1) := blk_cell X010.out 1
 have u0 : W10.cell? ⟨w.heap.size + 1, 0, none⟩ = some (.bool z0) := blk_cell X110.out 0
 have u1 : W10.cell? ⟨w.heap.size + 1, 1, none⟩ = some (.int .i64 z1) := blk_cell X110.out 1
 have u2 : W10.cell? ⟨w.heap.size + 1, 2, none⟩ = some (.slice A2 m c2) := blk_cell X110.out 2
 clear hal h7 hb810 hoa hob hb9 XG8 HI8 S08 S18 X58 X08 X18 B8
 go_wp2_with fail
 refine (HRF.out W10 B10.out).mono ?_
 rintro e W11 ⟨vc, vd, rfl, hoc, hod, hb11⟩
 clear hW10 hN9 x0 x1 u0 u1 u2
 obtain ⟨AD, cD, rfl⟩ := Kd.S_slice hoc
 obtain ⟨AE, cE, rfl⟩ := Kd.S_slice hod
 obtain ⟨W12, hW12⟩ : ∃ W, W11.alloc (.cells #[.slice AD X1.length cD, .slice AE X2.length cE] 55) = W := ⟨_, rfl⟩
 obtain ⟨N11, hN11⟩ : ∃ N, W11.heap.size = N := ⟨_, rfl⟩
 have hal := below_alloc (Below.refl W11.heap.size W11) (.cells #[.slice AD X1.length cD, .slice AE X2.length cE] 55)
 have h9 : W12.heap[N11]? = some (.cells #[.slice AD X1.length cD, .slice AE X2.length cE] 55 (0, 0)) := by rw [← hW12, ← hN11]; exact blk_new rfl
 rw [hW12] at hal
 have hb12 : Below W10.heap.size W10 W12 := hb11.trans (hal.mono hb11.size)
 have Y9 := Aside0.mk h9
 have OD := Aside0.mk (Kd.S_below (Kd.S_lower (Kd.S_mono (Kd.S_bound hoc) (ok' := fun q => N7 ≤ q ∧ q < N11) (fun q hq => ⟨by have := hq.2.1; have := Z9.out; omega, by rw [← hN11]; exact hq.2.2.1⟩)) (show w.heap.size ≤ W10.heap.size by have := B10.out.size; omega)) hal)
 have OE := Aside0.mk (Kd.S_below (Kd.S_lower (Kd.S_mono (Kd.S_bound hod) (ok' := fun q => N7 ≤ q ∧ q < N11) (fun q hq => ⟨by have := hq.2.1; have := Z9.out; omega, by rw [← hN11]; exact hq.2.2.1⟩)) (show w.heap.size ≤ W10.heap.size by have := B10.out.size; omega)) hal)
 have XA2 := Aside0.mk (blk_below XA.out hb12)
 have OA2 := Aside0.mk (Kd.S_below OA.out hb12)
 have OB2 := Aside0.mk (Kd.S_below OB.out hb12)
 have XG12 := Aside0.mk (blk_below XG10.out hb12)
 have HI12 := Aside0.mk (Kd.R_below HI10.out hb12)
 have S012 := Aside0.mk (Kd.S_below S010.out hb12)
 have S112 := Aside0.mk (Kd.S_below S110.out hb12)
 have X512 := Aside0.mk (blk_below X510.out hb12)
 have B12 := Aside0.mk (B10.out.trans (hb12.mono B10.out.size))
 have Z11 : Aside0 (N9 < N11) := ⟨by have := hb11.size; have := Z9.out; omega⟩
 have y2 : W12.cell? ⟨gb, 2, none⟩ = some (.slice A6 m c6) := blk_cell XG12.out 2
 clear hal h9 hb12 hoc hod hb11 XG10 HI10 S010 S110 X510 X010 X110 B10 XA OA OB
 go_wp2_with fail
 obtain ⟨qI, hqI, hspI⟩ := HSP.out x.f2 HL2.out
 have hI12 := HI12.out
 refine (fanlightplain_Spoil.calls k _ _ x.f2 qI w W12 B12.out hI12 hspI).mono ?_
 rintro e W13 ⟨rfl, hoI, hbI, hkI⟩
 clear hW12 hN11 y2 hI12
 have Z := Aside0.mk (And.intro Z3.out (And.intro Z5.out (And.intro Z9.out.1 Z11.out)))
 have X513 := Aside0.mk (blk_kept X512.out hkI (by have := Z.out; omega))
 have XA3 := Aside0.mk (blk_kept XA2.out hkI (by have := Z.out; omega))
 have Y93 := Aside0.mk (blk_kept Y9.out hkI (by have := Z.out; omega))
 have S013 := Aside0.mk (Kd.S_kept S012.out hkI (fun q hq h2 => by have := HPA.out q hq; have := Z.out; omega))
 have S113 := Aside0.mk (Kd.S_kept S112.out hkI (fun q hq h2 => by have := Z.out; omega))
 have OA3 := Aside0.mk (Kd.S_kept OA2.out hkI (fun q hq h2 => by omega))
 have OB3 := Aside0.mk (Kd.S_kept OB2.out hkI (fun q hq h2 => by omega))
 have OD3 := Aside0.mk (Kd.S_kept OD.out hkI (fun q hq h2 => by omega))
 have OE3 := Aside0.mk (Kd.S_kept OE.out hkI (fun q hq h2 => by omega))
 have B13 := Aside0.mk hbI
 clear hoI hbI hkI hspI hqI X512 XA2 Y9 S012 S112 OA2 OB2 OD OE B12 XG12 HI12 Z3 Z5 Z9 Z11 Z4
 go_wp2_with fail
 go_loopg [11] (n0 + 1) (fun kq v11 w' => ∃ (j : Nat) (xs : List (List Int)), v11 = .int .i64 j ∧ j ≤ n0 ∧ kq + j = n0 + 1 ∧ xs.length = n0 ∧ Aside0 (∀ s ∈ xs, s.length ≤ SpB) ∧ Aside0 (Below w.heap.size w w') ∧ Aside0 (w'.heap[N3]? = some (.cells #[.slice AO n0 cO, .slice AC n1 cC] 58 (0, 0))) ∧ Aside0 (w'.heap[N9]? = some (.cells #[.slice AA X1.length cA, .slice AB X2.length cB] 58 (0, 0))) ∧ Aside0 (w'.heap[N11]? = some (.cells #[.slice AD X1.length cD, .slice AE X2.length cE] 55 (0, 0))) ∧ Aside0 (Kd.S (Kd.slice 5 (Kd.int .u8)) 22 w' w.heap.size PO (.slice AO n0 cO) xs) ∧ Aside0 (Kd.S k57 57 w' w.heap.size (fun k => ¬ PO k ∧ w.heap.size + 2 ≤ k ∧ k < N3) (.slice AC n1 cC) cache) ∧ Aside0 (Kd.S (Kd.slice 5 (Kd.int .u8)) 22 w' w.heap.size (fun q => N7 ≤ q ∧ q < N9) (.slice AA X1.length cA) X1) ∧ Aside0 (Kd.S k57 57 w' w.heap.size (fun q => N7 ≤ q ∧ q < N9) (.slice AB X2.length cB) X2) ∧ Aside0 (Kd.S (Kd.slice 5 (Kd.int .u8)) 22 w' w.heap.size (fun q => N7 ≤ q ∧ q < N11) (.slice AD X1.length cD) X1) ∧ Aside0 (Kd.S k57 57 w' w.heap.size (fun q => N7 ≤ q ∧ q < N11) (.slice AE X2.length cE) X2))
 case atStart => exact ⟨0, secs, rfl, by omega, by omega, HN0.out, HLS, B13, X513, XA3, Y93, S013, S113, OA3, OB3, OD3, OE3⟩
 case round =>
  clear B13 X513 XA3 Y93 S013 S113 OA3 OB3 OD3 OE3
  obtain ⟨j, xs, rfl, hjn, hkq, hxl, HLX, HB, HX5, HXA, HY9, HO, HC, HOA, HOB, HOD, HOE⟩ := hrel
  cases gk with
  | zero => exact absurd hkq (by omega)
  | succ k1 =>
  by_cases hlt : j < n0
  ·
   obtain ⟨g, cap, he, hgb_, hgl, cells, hgc⟩ := Kd.S_form HO.out (by omega)
   have hxn : n0 = xs.length := hxl.symm
   rw [hxl] at he
   injection he with he1 he2 he3
   subst he1
   clear he2 he3 hgc cells hgb_ hgl cap
   obtain ⟨oki, c, hcl, hM, hcc, hoki, hH⟩ := Kd.S_lend HO.out [] (j : Int) (by omega) (by omega)
   obtain ⟨v, rfl, hR⟩ := hM
   have hx := hcc 0 v rfl
   simp only [Int.toNat_natCast] at hR hx
   have hx' := hx
   rw [show j * (Kd.slice 5 (Kd.int .u8)).sz + 0 = j from Nat.mul_one j] at hx'
   have hmem : xs.getD j [] ∈ xs := by
    rw [List.getD_eq_getElem?_getD, List.getElem?_eq_getElem (by omega)]
    exact List.getElem_mem _
   obtain ⟨q, hql, hsp⟩ := HSP.out _ (HLX.out _ hmem)
   obtain ⟨Av, cv, rfl⟩ := Kd.R_slice hR
   have y0 : wr.cell? ⟨N3, 0, none⟩ = some (.slice (some ⟨g, 0, none⟩) n0 cO) := blk_cell HX5.out 0
   have hj0 : decide ((j : Int) < n0) = true := decide_eq_true (by omega)
   obtain ⟨s, hs⟩ : ∃ s, xs.getD j [] = s := ⟨_, rfl⟩
   have hsl := HLX.out _ hmem
   rw [hs] at hR hsp hH hx' hql hsl
   clear hcc hcl hx hs hmem
   have HR := Aside0.mk hR
   have HH := Aside0.mk hH
   have HSQ := Aside0.mk hsp
   have HQL := Aside0.mk hql
   have HSL := Aside0.mk hsl
   have HOK := Aside0.mk hoki
   have hj1 : (0 : Int) ≤ (j : Int) := by omega
   have hj2 : (j : Int) < (n0 : Int) := by omega
   have hw1 : wrap64 ((j : Int) + 1) = ((j + 1 : Nat) : Int) := by unfold wrap64; omega
   have HW1 := Aside0.mk hw1
   have HXL := Aside0.mk hxl
   have HKQ := Aside0.mk hkq
   clear hR hH hsp hql hsl hoki hw1 hxn hxl hkq
   go_wp2_with (go_at_call 28; refine (fanlightplain_Spoil.calls k oki _ s q w _ HB.out HR.out HSQ.out).mono ?_; rintro e wM ⟨rfl, hR2, hb2, hk2⟩)
   have hS := Kd.H_back (Kd.H_kept HH.out hk2 (fun _ _ h => h)) (x' := q) (okp := oki) ⟨_, rfl, ⟨HR.out.1, hR2.2⟩⟩ (fun _ h => h)
   simp only [Int.toNat_natCast] at hS
   have hlen : (xs.set j q).length = n0 := by rw [List.length_set]; exact HXL.out
   have hall : ∀ t ∈ xs.set j q, t.length ≤ SpB := fun t ht => by
    rcases List.mem_or_eq_of_mem_set ht with h | h
    ·
     exact HLX.out t h
    ·
     rw [h, HQL.out]; exact HSL.out
   have r1 := HKQ.out
   have r2 := blk_kept HX5.out hk2 (fun h => by have := HPA.out _ (HOK.out _ h).1; have := Z.out; omega)
   have r3 := blk_kept HXA.out hk2 (fun h => by have := HPA.out _ (HOK.out _ h).1; have := Z.out; omega)
   have r4 := blk_kept HY9.out hk2 (fun h => by have := HPA.out _ (HOK.out _ h).1; have := Z.out; omega)
   have r5 := Kd.S_kept HOA.out hk2 (fun u hu h => by have := HPA.out _ (HOK.out _ h).1; have := Z.out; omega)
   have r6 := Kd.S_kept HOB.out hk2 (fun u hu h => by have := HPA.out _ (HOK.out _ h).1; have := Z.out; omega)
   have r7 := Kd.S_kept HOD.out hk2 (fun u hu h => by have := HPA.out _ (HOK.out _ h).1; have := Z.out; omega)
   have r8 := Kd.S_kept HOE.out hk2 (fun u hu h => by have := HPA.out _ (HOK.out _ h).1; have := Z.out; omega)
   have r9 := Kd.S_kept HC.out hk2 (fun u hu h => hu.1 (HOK.out _ h).1)
   go_roundg k1
   case measure => omega
   case rel => exact ⟨j + 1, xs.set j q, by go_num, by omega, by omega, hlen, ⟨hall⟩, ⟨hb2⟩, ⟨r2⟩, ⟨r3⟩, ⟨r4⟩, ⟨hS⟩, ⟨r9⟩, ⟨r5⟩, ⟨r6⟩, ⟨r7⟩, ⟨r8⟩⟩
  ·
   obtain rfl : j = n0 := by omega
   have hd0 : decide ((j : Int) < j) = false := decide_eq_false (by omega)
   have y0 : wr.cell? ⟨N3, 0, none⟩ = some (.slice AO j cO) := blk_cell HX5.out 0
   clear hxl hkq hjn hlt
   go_wp2_with fail
   clear y0 hd0
   go_loopg [12] (n1 + 1) (fun kq v12 w' => ∃ (i : Nat) (ys : List S57), v12 = .int .i64 i ∧ i ≤ n1 ∧ kq + i = n1 + 1 ∧ ys.length = n1 ∧ Aside0 (∀ y ∈ ys, y.f2.length ≤ SpB) ∧ Aside0 (Below w.heap.size w w') ∧ Aside0 (w'.heap[N3]? = some (.cells #[.slice AO j cO, .slice AC n1 cC] 58 (0, 0))) ∧ Aside0 (w'.heap[N9]? = some (.cells #[.slice AA X1.length cA, .slice AB X2.length cB] 58 (0, 0))) ∧ Aside0 (w'.heap[N11]? = some (.cells #[.slice AD X1.length cD, .slice AE X2.length cE] 55 (0, 0))) ∧ Aside0 (Kd.S k57 57 w' w.heap.size (fun k => ¬ PO k ∧ w.heap.size + 2 ≤ k ∧ k < N3) (.slice AC n1 cC) ys) ∧ Aside0 (Kd.S (Kd.slice 5 (Kd.int .u8)) 22 w' w.heap.size (fun q => N7 ≤ q ∧ q < N9) (.slice AA X1.length cA) X1) ∧ Aside0 (Kd.S k57 57 w' w.heap.size (fun q => N7 ≤ q ∧ q < N9) (.slice AB X2.length cB) X2) ∧ Aside0 (Kd.S (Kd.slice 5 (Kd.int .u8)) 22 w' w.heap.size (fun q => N7 ≤ q ∧ q < N11) (.slice AD X1.length cD) X1) ∧ Aside0 (Kd.S k57 57 w' w.heap.size (fun q => N7 ≤ q ∧ q < N11) (.slice AE X2.length cE) X2))
   case atStart => exact ⟨0, cache, rfl, by omega, by omega, HN1.out, HLC, HB, HX5, HXA, HY9, HC, HOA, HOB, HOD, HOE⟩
   case round =>
   clear HLX HB HX5 HXA HY9 HO HC HOA HOB HOD HOE
   obtain ⟨i, ys, rfl, hjn, hkq, hxl, HLX, HB, HX5, HXA, HY9, HC, HOA, HOB, HOD, HOE⟩ := hrel
   cases gk with
   | zero => exact absurd hkq (by omega)
   | succ k2 =>
   by_cases hlt : i < n1
   ·
    obtain ⟨g, cap, he, hgb_, hgl, cells, hgc⟩ := Kd.S_form HC.out (by omega)
    have hxn : n1 = ys.length := hxl.symm
    rw [hxl] at he
    injection he with he1 he2 he3
    subst he1
    clear he2 he3 hgc cells hgb_ hgl cap
    obtain ⟨oki, c, hcl, hM, hcc, hoki, hH⟩ := Kd.S_lend HC.out z57 (i : Int) (by omega) (by omega)
    obtain ⟨v, rfl, hR⟩ := k57_openM hM
    have hx := hcc 2 v rfl
    simp only [Int.toNat_natCast] at hR hx
    have hx' := hx
    rw [show i * k57.sz + 2 = i * 3 + 2 from rfl] at hx'
    have hmem : ys.getD i z57 ∈ ys := by
     rw [List.getD_eq_getElem?_getD, List.getElem?_eq_getElem (by omega)]
     exact List.getElem_mem _
    obtain ⟨q, hql, hsp⟩ := HSP.out _ (HLX.out _ hmem)
    obtain ⟨Av, cv, rfl⟩ := Kd.R_slice hR
    have y0 : wr.cell? ⟨N3, 1, none⟩ = some (.slice (some ⟨g, 0, none⟩) n1 cC) := blk_cell HX5.out 1
    have hj0 : decide ((i : Int) < n1) = true := decide_eq_true (by omega)
    obtain ⟨s, hs⟩ : ∃ s, ys.getD i z57 = s := ⟨_, rfl⟩
    have hsl := HLX.out _ hmem
    have hHs := hH
    simp only [Int.toNat_natCast, hs] at hHs
    rw [hs] at hR hsp hx' hql hsl
    clear hcc hcl hx hmem hM hH hs
    have HR := Aside0.mk hR
    have HH := Aside0.mk hHs
    have HSQ := Aside0.mk hsp
    have HQL := Aside0.mk hql
    have HSL := Aside0.mk hsl
    have HOK := Aside0.mk hoki
    have hj1 : (0 : Int) ≤ (i : Int) := by omega
    have hj2 : (i : Int) < (n1 : Int) := by omega
    have hw1 : wrap64 ((i : Int) + 1) = ((i + 1 : Nat) : Int) := by unfold wrap64; omega
    have HW1 := Aside0.mk hw1
    have HXL := Aside0.mk hxl
    have HKQ := Aside0.mk hkq
    clear hR hHs hsp hql hsl hoki hw1 hxn hxl hkq
    go_wp2_with (go_at_call 28; refine (fanlightplain_Spoil.calls k oki _ s.f2 q w _ HB.out HR.out HSQ.out).mono ?_; rintro e wM ⟨rfl, hR2, hb2, hk2⟩)
    have hS := Kd.H_back (Kd.H_kept HH.out hk2 (fun _ _ h => h)) (x' := (⟨s.f0, s.f1, q⟩ : S57)) (okp := oki) (k57_mkM _ _ _ (⟨s.f0, s.f1, q⟩ : S57) ⟨HR.out.1, hR2.2⟩) (fun _ h => h)
    simp only [Int.toNat_natCast] at hS
    have hlen : (ys.set i (⟨s.f0, s.f1, q⟩ : S57)).length = n1 := by rw [List.length_set]; exact HXL.out
    have hall : ∀ t ∈ ys.set i (⟨s.f0, s.f1, q⟩ : S57), t.f2.length ≤ SpB := fun t ht => by
     rcases List.mem_or_eq_of_mem_set ht with h | h
     ·
      exact HLX.out t h
     ·
      rw [h]; show q.length ≤ SpB; rw [HQL.out]; exact HSL.out
    have r1 := HKQ.out
    have r2 := blk_kept HX5.out hk2 (fun h => by have := (HOK.out _ h).1.2; have := Z.out; omega)
    have r3 := blk_kept HXA.out hk2 (fun h => by have := (HOK.out _ h).1.2; have := Z.out; omega)
    have r4 := blk_kept HY9.out hk2 (fun h => by have := (HOK.out _ h).1.2; have := Z.out; omega)
    have r5 := Kd.S_kept HOA.out hk2 (fun u hu h => by have := (HOK.out _ h).1.2; have := Z.out; omega)
    have r6 := Kd.S_kept HOB.out hk2 (fun u hu h => by have := (HOK.out _ h).1.2; have := Z.out; omega)
    have r7 := Kd.S_kept HOD.out hk2 (fun u hu h => by have := (HOK.out _ h).1.2; have := Z.out; omega)
    have r8 := Kd.S_kept HOE.out hk2 (fun u hu h => by have := (HOK.out _ h).1.2; have := Z.out; omega)
    go_roundg k2
    case measure => omega
    case rel => exact ⟨i + 1, ys.set i ⟨s.f0, s.f1, q⟩, by go_num, by omega, by omega, hlen, ⟨hall⟩, ⟨hb2⟩, ⟨r2⟩, ⟨r3⟩, ⟨r4⟩, ⟨hS⟩, ⟨r5⟩, ⟨r6⟩, ⟨r7⟩, ⟨r8⟩⟩
   ·
    obtain rfl : i = n1 := by omega
    have hd0 : decide ((i : Int) < i) = false := decide_eq_false (by omega)
    have y0 : wr.cell? ⟨N3, 1, none⟩ = some (.slice AC i cC) := blk_cell HX5.out 1
    clear hxl hkq hjn hlt
    go_wp2_with fail
    refine (fanlightlaw05_num.calls X3 X3 _ rfl).mono ?_
    rintro e wN ⟨rfl, hd⟩
    have hbN : Below wr.heap.size wr wN := by
     obtain ⟨nd, rfl⟩ := hd
     exact pw_below_drewN (Below.refl _ _) nd
    have HXA2 := Aside0.mk (blk_below HXA.out hbN)
    have HY92 := Aside0.mk (blk_below HY9.out hbN)
    have HOA2 := Aside0.mk (Kd.S_below HOA.out hbN)
    have HOB2 := Aside0.mk (Kd.S_below HOB.out hbN)
    have HOD2 := Aside0.mk (Kd.S_below HOD.out hbN)
    have HOE2 := Aside0.mk (Kd.S_below HOE.out hbN)
    have HB2 := Aside0.mk (HB.out.trans (hbN.mono HB.out.size))
    have e0 : wN.cell? ⟨N9, 0, none⟩ = some (.slice AA X1.length cA) := blk_cell HXA2.out 0
    have e1 : wN.cell? ⟨N9, 1, none⟩ = some (.slice AB X2.length cB) := blk_cell HXA2.out 1
    have f0 : wN.cell? ⟨N11, 0, none⟩ = some (.slice AD X1.length cD) := blk_cell HY92.out 0
    have f1 : wN.cell? ⟨N11, 1, none⟩ = some (.slice AE X2.length cE) := blk_cell HY92.out 1
    clear hd hbN HXA HY9 HOA HOB HOD HOE HB HX5 HC y0 HLX hd0
    go_wp2_with fail
    refine (fanlightlaw05_Alike.calls k AA cA X1 AB cB X2 AD cD X1 AE cE X2 0 _ (Kd.S_reads' HOA2.out).2.2 (Kd.S_reads' HOA2.out).2.1 (Kd.S_reads' HOB2.out).2.2 (Kd.S_reads' HOB2.out).2.1 (Kd.S_reads' HOD2.out).2.2 (Kd.S_reads' HOD2.out).2.1 (Kd.S_reads' HOE2.out).2.2 (Kd.S_reads' HOE2.out).2.1 HAL.out).mono ?_
    rintro e wP ⟨rfl, hbP⟩
    have HB3 := Aside0.mk (HB2.out.trans (hbP.mono HB2.out.size))
    clear hbP e0 e1 f0 f1 HXA2 HY92 HOA2 HOB2 HOD2 HOE2 HB2
    go_wp2_with fail
    go_ret
    exact ⟨rfl, HB3.out⟩
def fanlightlaw05_DiskOwn.P (k : Nat) (secs : List (List Int)) (cache : List S57) (z0 : Bool) (z1 : Int) (l : List Int) : Prop :=
 fanlightlaw05_alive.f k = some true ∧ fanlightlaw05_Of.f k secs cache = some (secs, cache) ∧ fanlightplain_CopyBytes.f l = some l ∧ (∃ X : List (List Int) × List S57 × Int, disk_Do.f secs cache z0 z1 l = some X ∧ fanlightref05_Do.f k secs cache z0 z1 l = some X ∧ fanlightlaw05_Alike.f k X.1 X.2.1 X.1 X.2.1 = some 0) ∧
  (∀ l : List Int, l.length ≤ SpB → ∃ q, q.length = l.length ∧ fanlightplain_Spoil.f k l = some q) ∧ secs.length ≤ 5864062014800 ∧ (∀ s ∈ secs, s.length ≤ SpB) ∧ cache.length ≤ 3518437208880 ∧ (∀ y ∈ cache, y.f2.length ≤ SpB) ∧ l.length ≤ SpB
theorem fanlightlaw05_DiskOwn.calls (k : Nat) (A0_0 : Option Addr) (c0_0 : Nat) (l0_0 : List (List Int)) (A0_1 : Option Addr) (c0_1 : Nat) (l0_1 : List S57) (a1_0 : Bool) (a1_1 : Int) (A1_2 : Option Addr) (c1_2 : Nat) (l1_2 : List Int) (r : Bool) (w : World)
  (hr0_0 : Kd.C (Kd.slice 5 (Kd.int .u8)) w A0_0 l0_0.length l0_0) (hc0_0 : l0_0.length ≤ c0_0) (hr0_1 : Kd.C k57 w A0_1 l0_1.length l0_1) (hc0_1 : l0_1.length ≤ c0_1) (hr1_2 : Kd.C (Kd.int .u8) w A1_2 l1_2.length l1_2) (hc1_2 : l1_2.length ≤ c1_2) (h : r = true ∧ fanlightlaw05_DiskOwn.P k l0_0 l0_1 a1_0 a1_1 l1_2) :
  Calls Try.prog 11 #[.agg #[.slice A0_0 l0_0.length c0_0, .slice A0_1 l0_1.length c0_1], .agg #[.bool a1_0, .int .i64 a1_1, .slice A1_2 l1_2.length c1_2]] w fun e w' => e = .returned (.bool r) ∧ Below w.heap.size w w' := by
 obtain ⟨rfl, h1, h2, h3, ⟨⟨X1, X2, X3⟩, h4, h5, h6⟩, h7, h8, h9, h10, h11, h12⟩ := h
 exact diskown1 k A0_0 c0_0 l0_0 A0_1 c0_1 l0_1 ⟨a1_0, a1_1, l1_2⟩ A1_2 c1_2 X1 X2 X3 w hr0_0 hc0_0 hr0_1 hc0_1 hr1_2 hc1_2 h1 h2 h3 h4 h5 h6 h7 h8 h9 h10 h11 h12
end Go.Proofs.Ytkdaeleolomdkaa.D
