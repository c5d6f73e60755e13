import Derived.Test.YtleofbidijbahaaYD0
import Derived.Test.YtleofbidijbahaaYD5
import Derived.Test.YtleofbidijbahaaYD11
namespace Go.Proofs.Ytleofbidijbahaa.D
open Go.RowKit Go.Proofs.YtleofbidijbahaaW.PrintWords Go.Proofs.YtleofbidijbahaaW.PrintLast Go.Proofs.YtleofbidijbahaaW.PrintMore
attribute [local go_sem] max2_int min2_int max_two min_two max_three min_three max_four min_four   -- for this text's walks alone
set_option linter.unusedVariables false
set_option linter.unusedSimpArgs false
def ascB (nx : Int) : Int → List S63 → Bool
 | _, [] => true
 | last, x :: xs => if x.f0 ≤ last ∨ x.f0 ≥ nx then false else ascB nx x.f0 xs
theorem ascB_rises {nx : Int} : ∀ (ns : List S63) (last : Int), ascB nx last ns = true → Rises ns ∧ ∀ x ∈ ns, last < x.f0 ∧ x.f0 < nx
 | [], _, _ => ⟨fun i j hi => absurd hi (by simp), fun x hx => by simp at hx⟩
 | a :: r, last, h => by
  rw [ascB] at h
  split at h
  ·
   cases h
  ·
   rename_i hn
   obtain ⟨h1, h2⟩ := ascB_rises r a.f0 h
   refine ⟨fun i j hi hj hij => ?_, fun x hx => ?_⟩
   ·
    match i, j with
    | 0, j + 1 => exact (h2 _ (List.getElem_mem (Nat.lt_of_succ_lt_succ hj))).1
    | i + 1, j + 1 => exact h1 i j (Nat.lt_of_succ_lt_succ hi) (Nat.lt_of_succ_lt_succ hj) (by omega)
   ·
    rcases List.mem_cons.1 hx with rfl | hx
    ·
     omega
    ·
     have := h2 x hx; omega
def rootB (ns : List S63) (r : Int) : Bool := if r = 0 then true else match nodeOf ns r with | none => false | some y => !y.f2.toList.isEmpty && decide (y.f1 = 0)
def checkE (ns : List S63) (r nx : Int) : Int :=
 if nx < 1 ∨ nx > 2147483647 ∨ 1024 < ns.length then 9 else
 if ascB nx 0 ns = false then 9 else
 if ns.all (nodeB ns) = false then 9 else
 if rootB ns r = false then 9 else 0
def dom_Check.f (l0_0 : List S63) (a0_1 a0_2 : Int) : Option Int := if (∀ x ∈ l0_0, ∀ k ∈ x.f6, -9223372036854775808 ≤ k ∧ k ≤ 9223372036854775807) then some (checkE l0_0 a0_1 a0_2) else none
set_option maxRecDepth 100000 in
set_option maxHeartbeats 4000000 in
theorem check_is (A : Option Addr) (c n : Nat) (ns : List S63) (r nx : Int) (w : World) (hC : Kd.C k63 w A n ns) (hn : ns.length = n) (hkr : ∀ x ∈ ns, ∀ k ∈ x.f6, -9223372036854775808 ≤ k ∧ k ≤ 9223372036854775807) :
  Calls Try.prog 23 #[.agg #[.slice A n c, .int .i64 r, .int .i64 nx]] w fun e w' => e = .returned (.int .i64 (checkE ns r nx)) ∧ Below w.heap.size w w' := by
 obtain ⟨W1, hW1⟩ : ∃ W, w.alloc (.cells #[.slice A n c, .int .i64 r, .int .i64 nx] 28) = W := ⟨_, rfl⟩
 have HB1 : Aside0 (Below w.heap.size w W1) := ⟨by rw [← hW1]; exact (Below.refl _ _).alloc (Nat.le_refl _) _⟩
 have HX1 : Aside0 (W1.heap[w.heap.size]? = some (.cells #[.slice A n c, .int .i64 r, .int .i64 nx] 28 (0, 0))) := ⟨by rw [← hW1]; exact World.alloc_heap_new w _⟩
 obtain ⟨R, hR⟩ : ∃ R, checkE ns r nx = R := ⟨_, rfl⟩
 rw [hR]
 unfold checkE at hR
 rw [hn] at hR
 have HN := Lib.hid hn
 have HR := Lib.hid hR
 have HC := Aside0.mk hC
 have HKR := Aside0.mk hkr
 have x0 : W1.cell? ⟨w.heap.size, 0, none⟩ = some (.slice A n c) := blk_cell HX1.out 0
 have x2 : W1.cell? ⟨w.heap.size, 2, none⟩ = some (.int .i64 nx) := blk_cell HX1.out 2
 clear hC hkr hR hn
 go_enter Try.func23, Try.ntmps23
 go_upto_region 1 with (fail)
 go_cut [22] (fun v wc => wc = W1 ∧ v = .bool (decide (nx < 1) || decide (nx > 2147483647) || decide (1024 < n)))
 case first =>
  by_cases h1 : nx < 1
  ·
   have d1 : decide (nx < 1) = true := decide_eq_true h1
   go_wp2_with fail
   go_meet
   exact ⟨rfl, by rw [d1]; rfl⟩
  ·
   have d1 : decide (nx < 1) = false := decide_eq_false h1
   by_cases h2 : nx > 2147483647
   ·
    have d2 : decide (nx > 2147483647) = true := decide_eq_true h2
    go_wp2_with fail
    go_meet
    exact ⟨rfl, by rw [d1, d2]; rfl⟩
   ·
    have d2 : decide (nx > 2147483647) = false := decide_eq_false h2
    by_cases h3 : 1024 < n
    ·
     have d3 : decide ((n : Int) > 1024) = true := decide_eq_true (by omega)
     have d4 : decide (1024 < n) = true := decide_eq_true h3
     go_wp2_with fail
     go_meet
     exact ⟨rfl, by rw [d1, d2, d4]; rfl⟩
    ·
     have d3 : decide ((n : Int) > 1024) = false := decide_eq_false (by omega)
     have d4 : decide (1024 < n) = false := decide_eq_false h3
     go_wp2_with fail
     go_meet
     exact ⟨rfl, by rw [d1, d2, d4]; rfl⟩
 case rest =>
  obtain ⟨rfl, rfl⟩ := hcut
  obtain ⟨q0, hq0⟩ : ∃ q0, (decide (nx < 1) || decide (nx > 2147483647) || decide (1024 < n)) = q0 := ⟨_, rfl⟩
  rw [hq0]
  cases q0 with
  | true =>
   have HV : Aside0 (R = 9) := ⟨by
    have h : nx < 1 ∨ nx > 2147483647 ∨ 1024 < n := by simpa [or_assoc] using hq0
    rw [← HR.out, if_pos h]⟩
   clear hq0 hW1
   go_wp2_with fail
   go_ret
   exact ⟨by rw [HV.out]; rfl, HB1.out⟩
  | false =>
   have hbd : ¬ (nx < 1 ∨ nx > 2147483647 ∨ 1024 < n) := fun h => by simp [or_assoc] at hq0; omega
   have HR2 := HR.out
   rw [if_neg hbd] at HR2
   replace HR2 := Lib.hid HR2
   have hn1 : n ≤ 1024 := by omega
   have hx1 : 1 ≤ nx := by omega
   have hx2 : nx ≤ 2147483647 := by omega
   clear hq0 hbd HR hW1
   go_wp2_with fail
   go_loopw [3, 26] (fun v3 v26 wr => ∃ (j : Nat) (last : Int), j ≤ n ∧ v26 = .int .i64 j ∧ v3 = .int .i64 last ∧ Aside0 (ascB nx 0 ns = ascB nx last (ns.drop j)) ∧ Aside0 (Below w.heap.size w wr) ∧ Aside0 (wr.heap[w.heap.size]? = some (.cells #[.slice A n c, .int .i64 r, .int .i64 nx] 28 (0, 0)))) (fun _ v26 _ => n - (intOf v26).toNat)
   case atStart => exact ⟨0, 0, by omega, rfl, rfl, ⟨rfl⟩, HB1, HX1⟩
   case round =>
    clear x0 x2 HB1 HX1
    obtain ⟨j, last, hj, rfl, rfl, HA, HBR, HXR⟩ := hrel
    by_cases hlt : j < n
    ·
     have hjl : j < ns.length := by have := HN.out; omega
     have d27 : decide ((j : Int) < (n : Int)) = true := decide_eq_true (by omega)
     obtain ⟨ad, A5, c5, A6, c6, rfl, e0, e1, e2, e3, e4, e5, e6, hl5, hC5, hl6, hC6⟩ := at_T63 (Kd.C_below HC.out HBR.out) (j : Int) (by omega) (by omega)
     have hx : rd_T63 ns (j : Int) = ns[j] := by unfold rd_T63; rw [Int.toNat_natCast, List.getD_eq_getElem?_getD, List.getElem?_eq_getElem hjl, Option.getD_some]
     simp only [Int.toNat_natCast, hx] at e0 e1 e2 e3 e4 e5 e6
     have hasc := HA.out
     rw [List.drop_eq_getElem_cons hjl, ascB] at hasc
     obtain ⟨x, hxe⟩ : ∃ x, ns[j] = x := ⟨_, rfl⟩
     rw [hxe] at e0 e1 e2 e3 e4 e5 e6 hasc
     obtain ⟨m5, hm5⟩ : ∃ m, x.f5.length = m := ⟨_, rfl⟩
     obtain ⟨m6, hm6⟩ : ∃ m, x.f6.length = m := ⟨_, rfl⟩
     rw [hm5] at e5
     rw [hm6] at e6
     obtain ⟨W4, hW4⟩ : ∃ W, wr.alloc (.cells #[.int .i64 x.f0, .int .i64 x.f1, .string x.f2, .string x.f3, .string x.f4, .slice A5 m5 c5, .slice A6 m6 c6] 63) = W := ⟨_, rfl⟩
     obtain ⟨N, hN⟩ : ∃ N, wr.heap.size = N := ⟨_, rfl⟩
     have hal := below_alloc (Below.refl wr.heap.size wr) (.cells #[.int .i64 x.f0, .int .i64 x.f1, .string x.f2, .string x.f3, .string x.f4, .slice A5 m5 c5, .slice A6 m6 c6] 63)
     rw [hW4] at hal
     have hx4 : NBox W4 N x A5 c5 m5 A6 c6 m6 := by rw [← hW4, ← hN]; exact World.alloc_heap_new wr _
     have HB4 := Aside0.mk (HBR.out.trans (hal.mono HBR.out.size))
     have HX4 := Aside0.mk ((hal.block _ (blk_lt HXR.out)).trans HXR.out)
     have y2 : W4.cell? ⟨w.heap.size, 2, none⟩ = some (.int .i64 nx) := blk_cell HX4.out 2
     have z0 : W4.cell? ⟨N, 0, none⟩ = some (.int .i64 x.f0) := blk_cell hx4 0
     have HASC := Aside0.mk hasc
     clear hx4 hal hxe hm5 hm6 hx hjl hl5 hC5 hl6 hC6 hasc
     by_cases h1 : x.f0 ≤ last
     ·
      have d1 : decide (x.f0 ≤ last) = true := decide_eq_true h1
      have HV : Aside0 (R = 9) := ⟨by rw [← HR2.out, if_pos (by rw [HASC.out, if_pos (.inl h1)])]⟩
      go_wp2_with fail
      go_ret
      exact ⟨by rw [HV.out]; rfl, HB4.out⟩
     ·
      have d1 : decide (x.f0 ≤ last) = false := decide_eq_false h1
      by_cases h2 : x.f0 ≥ nx
      ·
       have d2 : decide (x.f0 ≥ nx) = true := decide_eq_true h2
       have HV : Aside0 (R = 9) := ⟨by rw [← HR2.out, if_pos (by rw [HASC.out, if_pos (.inr h2)])]⟩
       go_wp2_with fail
       go_ret
       exact ⟨by rw [HV.out]; rfl, HB4.out⟩
      ·
       have d2 : decide (x.f0 ≥ nx) = false := decide_eq_false h2
       go_wp2_with fail
       exact ⟨⟨j + 1, x.f0, by omega, by go_num, rfl, ⟨by rw [HASC.out, if_neg (by omega)]⟩, HB4, HX4⟩, by simp only [intOf]; omega⟩
    ·
     obtain rfl : j = n := by omega
     have d27 : decide ((j : Int) < (j : Int)) = false := decide_eq_false (by omega)
     have hasc : ascB nx 0 ns = true := by
      rw [HA.out, List.drop_eq_nil_of_le (by have := HN.out; omega)]
      rfl
     have hr3 := HR2.out
     rw [if_neg (by rw [hasc]; decide)] at hr3
     have HR3 := Lib.hid hr3
     have HRI := Aside0.mk (ascB_rises ns 0 hasc)
     have x0 : wr.cell? ⟨w.heap.size, 0, none⟩ = some (.slice A j c) := blk_cell HXR.out 0
     clear hasc hr3 HR2 HA
     go_wp2_with fail
     clear x0
     go_loopw [47] (fun v47 wq => ∃ (i : Nat), i ≤ j ∧ v47 = .int .i64 i ∧ Aside0 (ns.all (nodeB ns) = (ns.drop i).all (nodeB ns)) ∧ Aside0 (Below w.heap.size w wq) ∧ Aside0 (wq.heap[w.heap.size]? = some (.cells #[.slice A j c, .int .i64 r, .int .i64 nx] 28 (0, 0)))) (fun v47 _ => j - (intOf v47).toNat)
     case atStart => exact ⟨0, by omega, rfl, ⟨rfl⟩, HBR, HXR⟩
     case round =>
      obtain ⟨i, hi, rfl, HA, HBQ, HXQ⟩ := hrel
      have HSQ : Aside0 (Sees wr w.heap.size (.int .i64 r) (.int .i64 nx) A c j ns) := ⟨HXQ.out, Kd.C_below HC.out HBQ.out, HN.out, by omega, HRI.out.1⟩
      clear HBR HXR
      by_cases hlt : i < j
      ·
       have hil : i < ns.length := by have := HN.out; omega
       have d48 : decide ((i : Int) < (j : Int)) = true := decide_eq_true (by omega)
       obtain ⟨ad, A5, c5, A6, c6, rfl, e0, e1, e2, e3, e4, e5, e6, hl5, hC5, hl6, hC6⟩ := at_T63 HSQ.out.row (i : Int) (by omega) (by omega)
       have hx : rd_T63 ns (i : Int) = ns[i] := by unfold rd_T63; rw [Int.toNat_natCast, List.getD_eq_getElem?_getD, List.getElem?_eq_getElem hil, Option.getD_some]
       simp only [Int.toNat_natCast, hx] at e0 e1 e2 e3 e4 e5 e6 hl5 hC5 hl6 hC6
       have hall := HA.out
       rw [List.drop_eq_getElem_cons hil, List.all_cons] at hall
       have hkr := HKR.out ns[i] (List.getElem_mem hil)
       obtain ⟨x, hxe⟩ : ∃ x, ns[i] = x := ⟨_, rfl⟩
       rw [hxe] at e0 e1 e2 e3 e4 e5 e6 hl5 hC5 hl6 hC6 hall hkr
       obtain ⟨m5, hm5⟩ : ∃ m, x.f5.length = m := ⟨_, rfl⟩
       obtain ⟨m6, hm6⟩ : ∃ m, x.f6.length = m := ⟨_, rfl⟩
       rw [hm5] at e5 hl5 hC5
       rw [hm6] at e6 hC6
       obtain ⟨W4, hW4⟩ : ∃ W, wr.alloc (.cells #[.int .i64 x.f0, .int .i64 x.f1, .string x.f2, .string x.f3, .string x.f4, .slice A5 m5 c5, .slice A6 m6 c6] 63) = W := ⟨_, rfl⟩
       obtain ⟨N, hN⟩ : ∃ N, wr.heap.size = N := ⟨_, rfl⟩
       have hal := below_alloc (Below.refl wr.heap.size wr) (.cells #[.int .i64 x.f0, .int .i64 x.f1, .string x.f2, .string x.f3, .string x.f4, .slice A5 m5 c5, .slice A6 m6 c6] 63)
       rw [hW4] at hal
       have hx4 : NBox W4 N x A5 c5 m5 A6 c6 m6 := by rw [← hW4, ← hN]; exact World.alloc_heap_new wr _
       have HB4 := Aside0.mk (HBQ.out.trans (hal.mono HBQ.out.size))
       have HX4 := Aside0.mk ((hal.block _ (blk_lt HXQ.out)).trans HXQ.out)
       have z0 : W4.cell? ⟨N, 0, none⟩ = some (.int .i64 x.f0) := blk_cell hx4 0
       have z1 : W4.cell? ⟨N, 1, none⟩ = some (.int .i64 x.f1) := blk_cell hx4 1
       have z2 : W4.cell? ⟨N, 2, none⟩ = some (.string x.f2) := blk_cell hx4 2
       have z3 : W4.cell? ⟨N, 3, none⟩ = some (.string x.f3) := blk_cell hx4 3
       have z4 : W4.cell? ⟨N, 4, none⟩ = some (.string x.f4) := blk_cell hx4 4
       have z5 : W4.cell? ⟨N, 5, none⟩ = some (.slice A5 m5 c5) := blk_cell hx4 5
       have z6 : W4.cell? ⟨N, 6, none⟩ = some (.slice A6 m6 c6) := blk_cell hx4 6
       have HCALL := Aside0.mk (dnode_is w.heap.size (.int .i64 r) (.int .i64 nx) ns (some ad) c j x A5 c5 m5 A6 c6 m6 W4 (HSQ.out.below hal) hm5 hm6 (Kd.C_below hC5 hal) hl5 (Kd.C_below hC6 hal) hkr)
       obtain ⟨b, hb⟩ : ∃ b, nodeB ns x = b := ⟨_, rfl⟩
       rw [hb] at HCALL hall
       have HALL := Aside0.mk hall
       clear hx4 hal hxe hm5 hm6 hx hil hl5 hC5 hl6 hC6 hkr hall hb
       go_wp2_with fail
       refine HCALL.out.mono ?_
       rintro e w5 ⟨rfl, hb5⟩
       have HB5 := Aside0.mk (HB4.out.trans (hb5.mono HB4.out.size))
       have HX5 := Aside0.mk ((hb5.block _ (blk_lt HX4.out)).trans HX4.out)
       clear hb5 HCALL z0 z1 z2 z3 z4 z5 z6
       cases b with
       | false =>
        have HV : Aside0 (R = 9) := ⟨by rw [← HR3.out, if_pos (by rw [HALL.out, Bool.false_and])]⟩
        go_wp2_with fail
        go_ret
        exact ⟨by rw [HV.out]; rfl, HB5.out⟩
       | true =>
        go_wp2_with fail
        exact ⟨⟨i + 1, by omega, by go_num, ⟨by rw [HALL.out, Bool.true_and]⟩, HB5, HX5⟩, by simp only [intOf]; omega⟩
      ·
       obtain rfl : i = j := by omega
       have d48 : decide ((i : Int) < (i : Int)) = false := decide_eq_false (by omega)
       have hall : ns.all (nodeB ns) = true := by
        rw [HA.out, List.drop_eq_nil_of_le (by have := HN.out; omega)]
        rfl
       have hr4 := HR3.out
       rw [if_neg (by rw [hall]; decide)] at hr4
       have HR4 := Lib.hid hr4
       have x1 : wr.cell? ⟨w.heap.size, 1, none⟩ = some (.int .i64 r) := blk_cell HXQ.out 1
       have HCALL := Aside0.mk (HSQ.out.find r)
       have HRB : Aside0 (rootB ns r = (if r = 0 then true else match nodeOf ns r with | none => false | some y => !y.f2.toList.isEmpty && decide (y.f1 = 0))) := ⟨rfl⟩
       clear hall hr4 HR3 HA d27
       cases hno : nodeOf ns r with
       | none =>
        rw [findV_none hno] at HCALL
        rw [hno] at HRB
        go_wp2_with fail
        refine HCALL.out.mono ?_
        rintro e w5 ⟨rfl, hb5⟩
        have HB5 := Aside0.mk (HBQ.out.trans (hb5.mono HBQ.out.size))
        replace x1 := pw_cell_below hb5 x1
        clear hb5 HCALL
        by_cases hr0 : r = 0
        ·
         have HV : Aside0 (R = 0) := ⟨by rw [← HR4.out, HRB.out, if_pos hr0]; rfl⟩
         subst hr0
         go_wp2_with fail
         go_ret
         exact ⟨by rw [HV.out]; rfl, HB5.out⟩
        ·
         have HV : Aside0 (R = 9) := ⟨by rw [← HR4.out, HRB.out, if_neg hr0]; rfl⟩
         have dr : (r != 0) = true := bne_iff_ne.2 hr0
         go_wp2_with fail
         go_ret
         exact ⟨by rw [HV.out]; rfl, HB5.out⟩
       | some y =>
        obtain ⟨ad, L, A5, c5, A6, c6, hA, -, -, -, -, hfv, -, e1, e2, -⟩ := HSQ.out.get hno
        rw [hfv] at HCALL
        rw [hno] at HRB
        clear hA hfv
        go_wp2_with fail
        refine HCALL.out.mono ?_
        rintro e w5 ⟨rfl, hb5⟩
        have HB5 := Aside0.mk (HBQ.out.trans (hb5.mono HBQ.out.size))
        replace x1 := pw_cell_below hb5 x1
        replace e1 := pw_cell_below hb5 e1
        replace e2 := pw_cell_below hb5 e2
        clear hb5 HCALL
        by_cases hr0 : r = 0
        ·
         have HV : Aside0 (R = 0) := ⟨by rw [← HR4.out, HRB.out, if_pos hr0]; rfl⟩
         subst hr0
         go_wp2_with fail
         go_ret
         exact ⟨by rw [HV.out]; rfl, HB5.out⟩
        ·
         have dr : (r != 0) = true := bne_iff_ne.2 hr0
         obtain ⟨q, hq⟩ : ∃ q, y.f2.toList.isEmpty = q := ⟨_, rfl⟩
         have HV0 : Aside0 ((if (!q && decide (y.f1 = 0)) = false then 9 else 0) = R) := ⟨by rw [← HR4.out, HRB.out, if_neg hr0, ← hq]⟩
         cases q with
         | true =>
          have HV : Aside0 (R = 9) := ⟨by rw [← HV0.out]; rfl⟩
          go_wp2_with fail
          go_ret
          exact ⟨by rw [HV.out]; rfl, HB5.out⟩
         | false =>
          obtain ⟨z, hz⟩ : ∃ z, y.f1 = z := ⟨_, rfl⟩
          rw [hz] at e1 HV0
          by_cases hz0 : z = 0
          ·
           have HV : Aside0 (R = 0) := ⟨by rw [← HV0.out, hz0]; rfl⟩
           subst hz0
           go_wp2_with fail
           go_ret
           exact ⟨by rw [HV.out]; rfl, HB5.out⟩
          ·
           have HV : Aside0 (R = 9) := ⟨by rw [← HV0.out, decide_eq_false hz0]; rfl⟩
           have dz : (z != 0) = true := bne_iff_ne.2 hz0
           go_wp2_with fail
           go_ret
           exact ⟨by rw [HV.out]; rfl, HB5.out⟩
theorem dom_Check.calls (A0_0 : Option Addr) (c0_0 : Nat) (l0_0 : List S63) (a0_1 a0_2 : Int) (r : Int) (w : World) (hr0_0 : Kd.C k63 w A0_0 l0_0.length l0_0) (hc0_0 : l0_0.length ≤ c0_0) (h : dom_Check.f l0_0 a0_1 a0_2 = some r) :
  Calls Try.prog 23 #[.agg #[.slice A0_0 l0_0.length c0_0, .int .i64 a0_1, .int .i64 a0_2]] w fun e w' => e = .returned (.int .i64 r) ∧ Below w.heap.size w w' := by
 unfold dom_Check.f at h
 split at h
 ·
  rename_i hk
  injection h with h
  subst h
  exact check_is A0_0 c0_0 _ l0_0 a0_1 a0_2 w hr0_0 rfl hk
 ·
  cases h
end Go.Proofs.Ytleofbidijbahaa.D
