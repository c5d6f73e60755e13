import Derived.Test.YtgmkgobapeencaaYS2
import Derived.Test.YtgmkgobapeencaaYS14
import Derived.Test.YtgmkgobapeencaaYS15
namespace Go.Proofs.Ytgmkgobapeencaa.S
open Go.Proofs.YtgmkgobapeencaaW.PrintWords.Aside0 renaming mk → b'
open Bool renaming true → Y, false → Z
open Go.RowKit Go.Proofs.YtgmkgobapeencaaW.PrintWords Go.Proofs.YtgmkgobapeencaaW.PrintLast Go.Proofs.YtgmkgobapeencaaW.PrintMore
attribute [local go_sem] max2_int min2_int max_two min_two max_three min_three max_four min_four   -- for this text's walks alone
set_option linter.unusedVariables false
set_option linter.unusedSimpArgs false
def fanlightlaw06_alive.f (k : Nat)  : Option (Bool) := if 300 ≤ 281474976710656 then ((wal_Append.f k ([] : List (List Int)) 1 (List.replicate 300 0)).bind fun bt220 => ((wal_Append.f k bt220.1 bt220.2.1 (List.replicate 300 0)).bind fun bt230 => ((wal_Records.f k bt230.1 bt230.2.1).bind fun bt236 => ((fanlightlaw06_num.f bt220.2.2.2).bind fun t240 => ((fanlightlaw06_num.f bt230.2.2.2).bind fun t241 => ((fanlightlaw06_num.f bt236.2).bind fun t242 => (if (wrap64 ((wrap64 (t240 + t241)) + t242)) = 0 then (if bt220.2.2.1 = 0 then (if bt230.2.2.1 = 1 then (if (bt236.1.length : Int) = 2 then (if 1 < (bt236.1.length : Int) then (some (((rd_T60 bt236.1 1).f0) == 2)) else (none)) else (some false)) else (some false)) else (some false)) else (some false)))))))) else (none)
theorem fanlightlaw06_alive.mono : ∀ k, LeO (fanlightlaw06_alive.f k ) (fanlightlaw06_alive.f (k + 1) ) := by
 intro  k
 unfold fanlightlaw06_alive.f
 repeat' first
   | (with_reducible exact wal_Append.mono _ _ _ _)
   | (with_reducible exact wal_Records.mono _ _ _)
   | with_reducible first | exact LeO.refl _ | exact LeO.none _ | refine LeO.ite ?_ ?_ | refine LeO.bind ?_ fun _ => ?_
def fanlightlaw06_alive.T2 : Bool × List (List Nat × List Nat) := (true,[([],[]),([],[]),([0,1],[0,1]),([2],[2]),([3],[3]),([3],[3]),([3],[3]),([4,2,0,1,2,3,4],[4]),([5,7,0,1,2,3,4,5,7],[5]),([6,8,0,1,2,3,4,5,6,7,8],[6])])
def fanlightlaw06_alive.B2 : List Nat := [0,0,3,7,15,15,15,31,191,511]
theorem fanlightlaw06_alive.tab2 : rtab .any (opsOf Try.f8 2) = fanlightlaw06_alive.T2 := by kernel_rfl
theorem fanlightlaw06_alive.bits2 : waitsOk fanlightlaw06_alive.T2.2 fanlightlaw06_alive.B2 = true := by kernel_rfl
set_option maxHeartbeats 8000000 in
set_option maxRecDepth 100000 in
theorem fanlightlaw06_alive.calls (k : Nat)  (r : Bool) (w : World) (h : fanlightlaw06_alive.f k  = some r) (hT : r = true) :
  Calls Try.prog 8 #[] w fun e w' => e = .returned (.bool r) ∧ Below w.heap.size w w' := by
 have hu27 := Try.underlying27
 have HB := b' (Below.refl w.heap.size w)
 have H : (if 300 ≤ 281474976710656 then ((wal_Append.f k ([] : List (List Int)) 1 (List.replicate 300 0)).bind fun bt220 => ((wal_Append.f k bt220.1 bt220.2.1 (List.replicate 300 0)).bind fun bt230 => ((wal_Records.f k bt230.1 bt230.2.1).bind fun bt236 => ((fanlightlaw06_num.f bt220.2.2.2).bind fun t240 => ((fanlightlaw06_num.f bt230.2.2.2).bind fun t241 => ((fanlightlaw06_num.f bt236.2).bind fun t242 => (if (wrap64 ((wrap64 (t240 + t241)) + t242)) = 0 then (if bt220.2.2.1 = 0 then (if bt230.2.2.1 = 1 then (if (bt236.1.length : Int) = 2 then (if 1 < (bt236.1.length : Int) then (some (((rd_T60 bt236.1 1).f0) == 2)) else (none)) else (some false)) else (some false)) else (some false)) else (some false)))))))) else (none)) = some r := h
 clear h
 by_cases c1 : 300 ≤ 281474976710656
 ·
  rw [if_pos c1] at H
  have c1b0 := eq_true c1
  have c1b1 : decide (300 ≤ 281474976710656) = true := decide_eq_true c1
  clear c1
  obtain ⟨y217, hy217⟩ : ∃ y_ : List Int, y_ = (List.replicate 300 0) := ⟨_, rfl⟩
  replace H : ((wal_Append.f k ([] : List (List Int)) 1 y217).bind fun bt220 => ((wal_Append.f k bt220.1 bt220.2.1 (List.replicate 300 0)).bind fun bt230 => ((wal_Records.f k bt230.1 bt230.2.1).bind fun bt236 => ((fanlightlaw06_num.f bt220.2.2.2).bind fun t240 => ((fanlightlaw06_num.f bt230.2.2.2).bind fun t241 => ((fanlightlaw06_num.f bt236.2).bind fun t242 => (if (wrap64 ((wrap64 (t240 + t241)) + t242)) = 0 then (if bt220.2.2.1 = 0 then (if bt230.2.2.1 = 1 then (if (bt236.1.length : Int) = 2 then (if 1 < (bt236.1.length : Int) then (some (((rd_T60 bt236.1 1).f0) == 2)) else (none)) else (some false)) else (some false)) else (some false)) else (some false)))))))) = some r := by first | (rw [hy217]; with_reducible exact H) | (have H2_ := (Option.bind_some _ _).symm.trans H; rw [hy217]; with_reducible exact H2_) | (have H2_ := (Option.bind_some _ _).symm.trans H; with_reducible exact H2_) | with_reducible exact H | (rw [hy217]; exact H) | exact H
  have Ny217 := b' hy217
  clear hy217
  replace H := Option.bind_eq_some_iff.mp H
  obtain ⟨⟨t220, t223, t224, t225⟩, A20, H⟩ := H
  (try dsimp only at H)
  have A2 := b' A20
  clear A20
  obtain ⟨y227, hy227⟩ : ∃ y_ : List Int, y_ = (List.replicate 300 0) := ⟨_, rfl⟩
  replace H : ((wal_Append.f k t220 t223 y227).bind fun bt230 => ((wal_Records.f k bt230.1 bt230.2.1).bind fun bt236 => ((fanlightlaw06_num.f t225).bind fun t240 => ((fanlightlaw06_num.f bt230.2.2.2).bind fun t241 => ((fanlightlaw06_num.f bt236.2).bind fun t242 => (if (wrap64 ((wrap64 (t240 + t241)) + t242)) = 0 then (if t224 = 0 then (if bt230.2.2.1 = 1 then (if (bt236.1.length : Int) = 2 then (if 1 < (bt236.1.length : Int) then (some (((rd_T60 bt236.1 1).f0) == 2)) else (none)) else (some false)) else (some false)) else (some false)) else (some false))))))) = some r := by first | (rw [hy227]; with_reducible exact H) | (have H2_ := (Option.bind_some _ _).symm.trans H; rw [hy227]; with_reducible exact H2_) | (have H2_ := (Option.bind_some _ _).symm.trans H; with_reducible exact H2_) | with_reducible exact H | (rw [hy227]; exact H) | exact H
  have Ny227 := b' hy227
  clear hy227
  replace H := Option.bind_eq_some_iff.mp H
  obtain ⟨⟨t230, t233, t234, t235⟩, A30, H⟩ := H
  (try dsimp only at H)
  have A3 := b' A30
  clear A30
  replace H := Option.bind_eq_some_iff.mp H
  obtain ⟨⟨t236, t239⟩, A40, H⟩ := H
  (try dsimp only at H)
  have A4 := b' A40
  clear A40
  replace H := Option.bind_eq_some_iff.mp H
  obtain ⟨t240, A50, H⟩ := H
  (try dsimp only at H)
  have A5 := b' A50
  clear A50
  replace H := Option.bind_eq_some_iff.mp H
  obtain ⟨t241, A60, H⟩ := H
  (try dsimp only at H)
  have A6 := b' A60
  clear A60
  replace H := Option.bind_eq_some_iff.mp H
  obtain ⟨t242, A70, H⟩ := H
  (try dsimp only at H)
  have A7 := b' A70
  clear A70
  by_cases c8 : (wrap64 ((wrap64 (t240 + t241)) + t242)) = 0
  ·
   rw [if_pos c8] at H
   have c8b0 : ((wrap64 ((wrap64 (t240 + t241)) + t242)) == 0) = true := beq_iff_eq.mpr c8
   have c8b1 : ((wrap64 ((wrap64 (t240 + t241)) + t242)) != 0) = false := bne_eq_false_iff_eq.mpr c8
   clear c8
   by_cases c9 : t224 = 0
   ·
    rw [if_pos c9] at H
    have c9b0 : (t224 == 0) = true := beq_iff_eq.mpr c9
    have c9b1 : (t224 != 0) = false := bne_eq_false_iff_eq.mpr c9
    clear c9
    by_cases c10 : t234 = 1
    ·
     rw [if_pos c10] at H
     have c10b0 : (t234 == 1) = true := beq_iff_eq.mpr c10
     have c10b1 : (t234 != 1) = false := bne_eq_false_iff_eq.mpr c10
     clear c10
     by_cases c11 : (t236.length : Int) = 2
     ·
      rw [if_pos c11] at H
      have c11b0 : ((t236.length : Int) == 2) = true := beq_iff_eq.mpr c11
      have c11b1 : ((t236.length : Int) != 2) = false := bne_eq_false_iff_eq.mpr c11
      clear c11
      by_cases c12 : 1 < (t236.length : Int)
      ·
       rw [if_pos c12] at H
       have c12b0 : decide (1 < (t236.length : Int)) = true := decide_eq_true c12
       have c12b1 : decide (1 < t236.length) = true := decide_eq_true (by omega)
       clear c12
       obtain rfl := Option.some.inj H
       go_enter Try.func8, Try.ntmps8
       try go_wp2_with (first | ((with_reducible refine gate_dst (N := 10) rfl ?_); (try (refine gate_guard (by rfl) ?_; dsimp only)); refine Kd.R_make (Kd.int .u8) _ 5 rfl (N := 10) rfl 25 _ _ rfl 300 rfl rfl Try.underlying25 (.int .u8 0) 1 info5 rfl (by decide) (by omega) 0 (ok := fun _ => True) (okp := fun _ => True) rfl (fun _ hk => hk) trivial (by omega) (by omega) (Below.refl _ _) (Nat.le_refl _) ?_; intro v218 w13 ho14 hb hg_ hnew_; clear hg_ hnew_; (first | rw [← Ny217.out] at ho14 | (simp only [Int.reduceToNat] at ho14; rw [← Ny217.out] at ho14)); have n0_ := b' (Kd.R_lower ho14 (below_size (eH HB))); have n1_ := b' (below_step (eH HB) hb); clear HB; have HO219 := n0_; have HB := n1_; clear n0_ n1_; clear hb ho14; obtain ⟨Ao15, co15, eo15⟩ := Kd.R_slice HO219.out; subst eo15) | ((with_reducible refine gate_callee (f := 11) rfl ?_); refine goesL_ (some 11) rfl rfl Try.func11 (by kernel_rfl) rfl #[.agg #[.slice none 0 0, .int .i64 1], .slice Ao15 y217.length co15] rfl (by (try simp only [List.map_toArray, List.map_cons, List.map_nil]); first | done | rfl | (simp only [List.length_drop, List.length_take]; rfl)) ?_; (refine (wal_Append.calls k _ _ ([] : List (List Int)) 1 _ _ y217 t220 t223 t224 t225 _ ?side1 ?side2 ?side3 ?side4 A2.out).mono ?_); (case side1 => exact Kd.C_nil _ _); (case side2 => exact Nat.le_refl _); (case side3 => exact Kd.kC (Kd.R_reads' HO219.out).2.2); (case side4 => exact (Kd.R_reads' HO219.out).2.1); rintro e w16 ⟨v221, rfl, ho0, hb⟩; refine ⟨_, rfl, ?_⟩; have n0_ := b' (Kd.R_below (Kd.eR HO219) hb); have n1_ := b' (Kd.N_lower (Kd.N_mono (ok' := fun k_ => some k_ ≠ (.slice Ao15 y217.length co15 : Value).ownBlock) (Kd.S_N (Kd.S_bound ho0)) (fun k_ hk_ => (Kd.fresh' (Kd.R_lt (Kd.eR HO219)) k_ hk_.2.1))) (below_size (eH HB))); have n2_ := b' (below_step (eH HB) hb); clear HO219; clear HB; have HO219 := n0_; have HO222 := n1_; have HB := n2_; clear n0_ n1_ n2_; (try clear hb); (try clear hb2); (try clear hk); (try clear hi); (try clear ho0)) | ((with_reducible refine gate_dst (N := 1) rfl ?_); (try (refine gate_guard (by rfl) ?_; dsimp only)); refine box_event ?hg (N := 1) ?hd (cs := #[.slice none 0 0, .int .i64 0]) (t := 27) ?hr ?_; (case hd => rfl); (case hg => rfl); (case hr => go_simp <;> rfl); intro gb226 hg w17 hbox hb; have n0_ := b' (Kd.R_below (Kd.eR HO219) hb); have n1_ := b' (Kd.N_below (Kd.N_elderB (Kd.eN HO222) gb226 (Nat.le_of_eq hg.symm)) hb); have n2_ := b' (below_step (eH HB) hb); have n3_ := b' (hbox); have n4_ := b' ((by rw [hg]; exact (below_size (eH HB)) : w.heap.size ≤ gb226)); have n5_ := b' ((by rw [hg]; exact (below_size (eH HB)) : w.heap.size ≤ gb226)); clear HO219; clear HO222; clear HB; have HO219 := n0_; have HO222 := n1_; have HB := n2_; have BK226 := n3_; have GW226 := n4_; have GE226 := n5_; clear n0_ n1_ n2_ n3_ n4_ n5_; clear hb hbox hg; obtain ⟨Ao18, co18, eo18⟩ := Kd.N_slice HO222.out; subst eo18; have hcz19_0 : w17.cell? ⟨gb226, 0, none⟩ = some (.slice none 0 0) := (blk_cell BK226.out 0).trans rfl; have hcz19_1 : w17.cell? ⟨gb226, 1, none⟩ = some (.int .i64 0) := (blk_cell BK226.out 1).trans rfl; have hfz19_0 := blk_frozen BK226.out 0; have hfz19_1 := blk_frozen BK226.out 1))
       have n0_ : Aside0 (Kd.R (Kd.int .u8) 5 ((w17.setCell ⟨gb226, 0, none⟩ (.slice Ao18 t220.length co18)).setCell ⟨gb226, 1, none⟩ (.int .i64 t223)) w.heap.size (fun _ => True) (.slice Ao15 y217.length co15) y217) := ⟨by (with_reducible repeat (first | apply Kd.R_alloc | apply Kd.R_drewN | apply Kd.R_drew)); exact Kd.R_mono (Kd.R_far (p := ⟨gb226, 1, none⟩) (Kd.R_far (p := ⟨gb226, 0, none⟩) (Kd.R_types HO219.out BK226.out (by decide)) (fun _ hk => hk.2) (.slice Ao18 t220.length co18)) (fun _ hk => hk.2) (.int .i64 t223)) (fun _ hk => trivial)⟩
       have n1_ : Aside0 (Kd.N (Kd.slice 5 (Kd.int .u8)) 25 ((w17.setCell ⟨gb226, 0, none⟩ (.slice Ao18 t220.length co18)).setCell ⟨gb226, 1, none⟩ (.int .i64 t223)) w.heap.size (fun k_ => some k_ ≠ (.slice Ao15 y217.length co15 : Value).ownBlock ∧ k_ ≠ gb226) (.slice Ao18 t220.length co18) t220) := ⟨by (with_reducible repeat (first | apply Kd.N_alloc | apply Kd.N_drewN | apply Kd.N_drew)); exact Kd.N_mono (Kd.N_far (p := ⟨gb226, 1, none⟩) (Kd.N_far (p := ⟨gb226, 0, none⟩) (Kd.N_mono HO222.out (fun k_ hk => (⟨hk, hk.2⟩ : _ ∧ k_ ≠ gb226))) (fun _ hk => hk.2) (.slice Ao18 t220.length co18)) (fun _ hk => hk.2) (.int .i64 t223)) (fun _ hk => ⟨hk.1.1, hk.1.2⟩)⟩
       have n2_ : Aside0 (((w17.setCell ⟨gb226, 0, none⟩ (.slice Ao18 t220.length co18)).setCell ⟨gb226, 1, none⟩ (.int .i64 t223)).heap[gb226]? = some (.cells #[.slice Ao18 t220.length co18, .int .i64 t223] 27 (0, 0))) := ⟨by refine eK ?_; refine blk_put (cs := #[.slice Ao18 t220.length co18, .int .i64 0]) ?_ 1 _ rfl; refine eK ?_; refine blk_put (cs := #[.slice none 0 0, .int .i64 0]) ?_ 0 _ rfl; refine eK ?_; exact BK226.out⟩
       have n3_ : Aside0 (Below w.heap.size w ((w17.setCell ⟨gb226, 0, none⟩ (.slice Ao18 t220.length co18)).setCell ⟨gb226, 1, none⟩ (.int .i64 t223))) := ⟨eH HB⟩
       (try clear HO219)
       (try clear HO222)
       (try clear BK226)
       (try clear HB)
       generalize ((w17.setCell ⟨gb226, 0, none⟩ (.slice Ao18 t220.length co18)).setCell ⟨gb226, 1, none⟩ (.int .i64 t223)) = w20 at n0_ n1_ n2_ n3_ ⊢
       have HO219 := n0_
       have HO222 := n1_
       have BK226 := n2_
       have HB := n3_
       clear n0_ n1_ n2_ n3_
       have n0_ := b' (Kd.R_drew HO219.out)
       have n1_ := b' (Kd.N_drew HO222.out)
       have n2_ := b' (blk_drew BK226.out)
       have n3_ := b' (below_drew1 HB.out)
       clear HO219
       clear HO222
       clear BK226
       clear HB
       have HO219 := n0_
       have HO222 := n1_
       have BK226 := n2_
       have HB := n3_
       clear n0_ n1_ n2_ n3_
       refine start_ (n := 10) (S := fun w' => w'.cell? ⟨gb226, 0, none⟩ = some (.slice Ao18 t220.length co18) ∧ w'.cell? ⟨gb226, 1, none⟩ = some (.int .i64 t223)) (ds := [7]) #[Z,Z,Z,Z,Z,Z,Z,Z,Z,Z] (by kernel_rfl) rfl rfl ⟨(blk_cell BK226.out 0).trans rfl, (blk_cell BK226.out 1).trans rfl⟩ (fun hHeld => ?_); refine with_tabW fanlightlaw06_alive.tab2 fanlightlaw06_alive.bits2 (fun HT_ HW_ => ?_)
       generalize w20.drew = w21 at HO219 HO222 BK226 HB hHeld ⊢
       refine take_ (i := 0) (N := some 16) (v := ?_) (a' := ?_) #[Y,Z,Z,Z,Z,Z,Z,Z,Z,Z] rfl rfl (take_ofW HT_.out HW_.out (by kernel_rfl)) (fun _ _ _ h => h) (Or.inl ⟨by rfl, ?_⟩) hHeld ?_ ?_
       rotate_left
       ·
        rintro w' ⟨s0, s1⟩
        go_simp
        with_reducible rfl
       rotate_left
       ·
        simp only [Act.put, List.setIfInBounds_toArray, List.set_cons_zero, List.set_cons_succ, i64_w, i32_w]
        rfl
       refine one_ (i := 1) (N := some 17) #[Y,Y,Z,Z,Z,Z,Z,Z,Z,Z] rfl rfl (one_of HT_.out (by kernel_rfl)) (by decide) (fun K hK => ?_)
       refine Kd.R_make_step (Kd.int .u8) _ 5 (by rfl) (N := 17) rfl 25 _ _ rfl 300 rfl rfl Try.underlying25 (.int .u8 0) 1 info5 rfl (by decide) (by omega) 0 (ok := fun _ => True) (okp := fun _ => True) rfl (fun _ hk => hk) trivial (by omega) (by omega) (Below.refl _ _) (Nat.le_refl _) ?_
       intro v228 w22 ho23 hb hg_ hnew_
       clear hg_ hnew_
       (first | rw [← Ny227.out] at ho23 | (simp only [Int.reduceToNat] at ho23; rw [← Ny227.out] at ho23))
       have n0_ := b' (Kd.R_elder' (Kd.eR HO219) (Kd.R_base ho23) hb)
       have n1_ := b' (Kd.N_elder' (Kd.eN HO222) (Kd.R_base ho23) hb)
       have n2_ := b' (Kd.R_lower (Kd.R_new' ho23 (Kd.R_lt (Kd.eR HO219))) (below_size (eH HB)))
       have n3_ := b' (blk_below (g := gb226) (o := .cells #[.slice Ao18 t220.length co18, .int .i64 t223] 27 (0, 0)) (eB BK226) hb)
       have n4_ := b' (below_step (eH HB) hb)
       clear HO219
       clear HO222
       clear BK226
       clear HB
       have HO219 := n0_
       have HO222 := n1_
       have HO229 := n2_
       have BK226 := n3_
       have HB := n4_
       clear n0_ n1_ n2_ n3_ n4_
       clear hb ho23
       obtain ⟨Ao24, co24, eo24⟩ := Kd.R_slice HO229.out
       (first | subst eo24 | (injection eo24 with f1_ f2_ f3_; have f4_ := f1_.symm; have f5_ := f3_.symm; clear f1_ f2_ f3_; subst f4_; subst f5_))
       refine hK.out _ _ ⟨(blk_cell BK226.out 0).trans rfl, (blk_cell BK226.out 1).trans rfl⟩ (fun hHeld => ?_)
       clear hK K
       refine norm_ (a' := ?_) ?_ ?_
       rotate_left
       ·
        show Act.put _ (some 17) _ = _
        simp only [Act.put, List.setIfInBounds_toArray, List.set_cons_zero, List.set_cons_succ, i64_w, i32_w]
        rfl
       refine one_ (i := 2) (N := some 18) #[Y,Y,Y,Z,Z,Z,Z,Z,Z,Z] rfl rfl (one_of HT_.out (by kernel_rfl)) (by decide) (fun K hK => ?_)
       refine goes_ Try.func11 (by kernel_rfl) rfl #[.agg #[.slice Ao18 t220.length co18, .int .i64 t223], .slice Ao24 y227.length co24] (by rfl) rfl rfl (by (try simp only [List.map_toArray, List.map_cons, List.map_nil]); first | done | rfl | (simp only [List.length_drop, List.length_take]; rfl)) ?_
       with_reducible refine (wal_Append.calls k _ _ t220 t223 _ _ y227 t230 t233 t234 t235 _ ?side1 ?side2 ?side3 ?side4 A3.out).mono ?_
       (case side1 => exact Kd.kC (Kd.N_reads' HO222.out).2.2)
       (case side2 => exact (Kd.N_reads' HO222.out).2.1)
       (case side3 => exact Kd.kC (Kd.R_reads' HO229.out).2.2)
       (case side4 => exact (Kd.R_reads' HO229.out).2.1)
       rintro e w25 ⟨v231, rfl, ho0, hb⟩
       refine ⟨_, rfl, ?_⟩
       have n0_ := b' (Kd.R_below (Kd.eR HO219) hb)
       have n1_ := b' (Kd.N_elder' (Kd.eN HO222) (Kd.S_base ho0) hb)
       have n2_ := b' (Kd.R_below (Kd.eR HO229) hb)
       have n3_ := b' (Kd.N_lower (Kd.N_mono (ok' := fun k_ => some k_ ≠ (.slice Ao15 y217.length co15 : Value).ownBlock ∧ some k_ ≠ (.slice Ao18 t220.length co18 : Value).ownBlock ∧ some k_ ≠ (.slice Ao24 y227.length co24 : Value).ownBlock ∧ k_ ≠ gb226) (Kd.S_N (Kd.S_bound ho0)) (fun k_ hk_ => ⟨(Kd.fresh' (Kd.R_lt (Kd.eR HO219)) k_ hk_.2.1), (Kd.fresh' (Kd.N_lt (Kd.eN HO222)) k_ hk_.2.1), (Kd.fresh' (Kd.R_lt (Kd.eR HO229)) k_ hk_.2.1), (Kd.freshB (g := gb226) (o := .cells #[.slice Ao18 t220.length co18, .int .i64 t223] 27 (0, 0)) (eB BK226) k_ hk_.2.1)⟩)) (below_size (eH HB)))
       have n4_ := b' (blk_below (g := gb226) (o := .cells #[.slice Ao18 t220.length co18, .int .i64 t223] 27 (0, 0)) (eB BK226) hb)
       have n5_ := b' (below_step (eH HB) hb)
       clear HO219
       clear HO222
       clear HO229
       clear BK226
       clear HB
       have HO219 := n0_
       have HO222 := n1_
       have HO229 := n2_
       have HO232 := n3_
       have BK226 := n4_
       have HB := n5_
       clear n0_ n1_ n2_ n3_ n4_ n5_
       (try clear hb)
       (try clear hb2)
       (try clear hk)
       (try clear hi)
       (try clear ho0)
       obtain ⟨Ao26, co26, eo26⟩ := Kd.N_slice HO232.out
       (first | subst eo26 | (injection eo26 with f1_ f2_ f3_; have f4_ := f1_.symm; have f5_ := f3_.symm; clear f1_ f2_ f3_; subst f4_; subst f5_))
       refine hK.out _ _ ⟨(blk_cell BK226.out 0).trans rfl, (blk_cell BK226.out 1).trans rfl⟩ (fun hHeld => ?_)
       clear hK K
       refine norm_ (a' := ?_) ?_ ?_
       rotate_left
       ·
        show Act.put _ (some 18) _ = _
        simp only [Act.put, List.setIfInBounds_toArray, List.set_cons_zero, List.set_cons_succ, i64_w, i32_w]
        rfl
       refine pure_ (i := 3) (N := some 15) (v := ?_) (a' := ?_) #[Y,Y,Y,Y,Z,Z,Z,Z,Z,Z] rfl rfl (any_of HT_.out (by kernel_rfl)) (fun _ _ _ h => h) (Or.inl ⟨by rfl, ?_⟩) ?_ ?_
       rotate_left
       ·
        intro w'
        go_simp
        with_reducible rfl
       rotate_left
       ·
        simp only [Act.put, List.setIfInBounds_toArray, List.set_cons_zero, List.set_cons_succ, i64_w, i32_w]
        rfl
       refine pure_ (i := 4) (N := some 19) (v := ?_) (a' := ?_) #[Y,Y,Y,Y,Y,Z,Z,Z,Z,Z] rfl rfl (any_of HT_.out (by kernel_rfl)) (fun _ _ _ h => h) (Or.inl ⟨by rfl, ?_⟩) ?_ ?_
       rotate_left
       ·
        intro w'
        go_simp
        with_reducible rfl
       rotate_left
       ·
        simp only [Act.put, List.setIfInBounds_toArray, List.set_cons_zero, List.set_cons_succ, i64_w, i32_w]
        rfl
       refine pure_ (i := 5) (N := some 20) (v := ?_) (a' := ?_) #[Y,Y,Y,Y,Y,Y,Z,Z,Z,Z] rfl rfl (any_of HT_.out (by kernel_rfl)) (fun _ _ _ h => h) (Or.inl ⟨by rfl, ?_⟩) ?_ ?_
       rotate_left
       ·
        intro w'
        go_simp
        with_reducible rfl
       rotate_left
       ·
        simp only [Act.put, List.setIfInBounds_toArray, List.set_cons_zero, List.set_cons_succ, i64_w, i32_w]
        rfl
       refine pure_ (i := 6) (N := some 21) (v := ?_) (a' := ?_) #[Y,Y,Y,Y,Y,Y,Y,Z,Z,Z] rfl rfl (any_of HT_.out (by kernel_rfl)) (fun _ _ _ h => h) (Or.inl ⟨by rfl, ?_⟩) ?_ ?_
       rotate_left
       ·
        intro w'
        go_simp
        with_reducible rfl
       rotate_left
       ·
        simp only [Act.put, List.setIfInBounds_toArray, List.set_cons_zero, List.set_cons_succ, i64_w, i32_w]
        rfl
       refine last_ (i := 7) (N := none) #[Y,Y,Y,Y,Y,Y,Y,Y,Z,Z] rfl rfl (one_of HT_.out (by kernel_rfl)) (by decide) (fun K hK => ?_)
       have hs27 : w25.cell? ⟨gb226, 0, none⟩ = some (.slice Ao18 t220.length co18) := (blk_cell BK226.out 0).trans rfl
       have hfs27 := blk_frozen BK226.out 0
       have hs28 : w25.cell? ⟨gb226, 1, none⟩ = some (.int .i64 t223) := (blk_cell BK226.out 1).trans rfl
       have hfs28 := blk_frozen BK226.out 1
       refine skip_ (w1 := ?_) (by rfl) rfl ?_ ?_
       rotate_left
       ·
        go_simp
        rfl
       refine hK.out _ _ ?_
       clear hK K
       refine pure_ (i := 8) (N := some 4) (v := ?_) (a' := ?_) #[Y,Y,Y,Y,Y,Y,Y,Y,Y,Z] rfl rfl (any_of HT_.out (by kernel_rfl)) (fun _ _ _ h => h) (Or.inl ⟨by rfl, ?_⟩) ?_ ?_
       rotate_left
       ·
        intro w'
        go_simp
        with_reducible rfl
       rotate_left
       ·
        simp only [Act.put, List.setIfInBounds_toArray, List.set_cons_zero, List.set_cons_succ, i64_w, i32_w]
        rfl
       refine pure_ (i := 9) (N := some 5) (v := ?_) (a' := ?_) #[Y,Y,Y,Y,Y,Y,Y,Y,Y,Y] rfl rfl (any_of HT_.out (by kernel_rfl)) (fun _ _ _ h => h) (Or.inl ⟨by rfl, ?_⟩) ?_ ?_
       rotate_left
       ·
        intro w'
        go_simp
        with_reducible rfl
       rotate_left
       ·
        simp only [Act.put, List.setIfInBounds_toArray, List.set_cons_zero, List.set_cons_succ, i64_w, i32_w]
        rfl
       refine done_ (done_of HT_.out (by kernel_rfl)) ?_
       have hcz29_0 : w25.cell? ⟨gb226, 0, none⟩ = some (.slice Ao18 t220.length co18) := (blk_cell BK226.out 0).trans rfl
       have hcz29_1 : w25.cell? ⟨gb226, 1, none⟩ = some (.int .i64 t223) := (blk_cell BK226.out 1).trans rfl
       have hfz29_0 := blk_frozen BK226.out 0
       have hfz29_1 := blk_frozen BK226.out 1
       try go_wp2_with (first | ((with_reducible refine gate_callee (f := 16) rfl ?_); refine goesL_ (some 24) rfl rfl Try.func16 (by kernel_rfl) rfl #[.agg #[.slice Ao26 t230.length co26, .int .i64 t233]] rfl (by (try simp only [List.map_toArray, List.map_cons, List.map_nil]); first | done | rfl | (simp only [List.length_drop, List.length_take]; rfl)) ?_; (with_reducible refine (wal_Records.calls k _ _ t230 t233 t236 t239 _ ?side1 ?side2 A4.out).mono ?_); (case side1 => refine (Kd.N_reads' (e := 25) (base := w.heap.size) (ok := fun k_ => (some k_ ≠ (.slice Ao15 y217.length co15 : Value).ownBlock ∧ (some k_ ≠ (.slice Ao18 t220.length co18 : Value).ownBlock ∧ (some k_ ≠ (.slice Ao24 y227.length co24 : Value).ownBlock ∧ k_ ≠ gb226)))) (n := t230.length) (c := co26) ?_).2.2; exact (Kd.kN (Kd.N_mono (Kd.N_far (p := ⟨gb226, 1, none⟩) (Kd.N_far (p := ⟨gb226, 0, none⟩) (Kd.N_mono HO232.out (fun k_ hk => (⟨hk, hk.2.2.2⟩ : _ ∧ k_ ≠ gb226))) (fun _ hk => hk.2) (.slice Ao26 t230.length co26)) (fun _ hk => hk.2) (.int .i64 t233)) (fun _ h_ => h_.1)))); (case side2 => exact (Kd.N_reads' HO232.out).2.1); rintro e w30 ⟨v237, rfl, ho0, hb⟩; refine ⟨_, rfl, ?_⟩; have n0_ := b' (Kd.R_below (Kd.kR (Kd.R_mono (Kd.R_far (p := ⟨gb226, 1, none⟩) (Kd.R_far (p := ⟨gb226, 0, none⟩) (Kd.R_types HO219.out BK226.out (by decide)) (fun _ hk => hk.2) (.slice Ao26 t230.length co26)) (fun _ hk => hk.2) (.int .i64 t233)) (fun _ h_ => h_.1))) hb); have n1_ := b' (Kd.N_elder' (Kd.kN (Kd.N_mono (Kd.N_far (p := ⟨gb226, 1, none⟩) (Kd.N_far (p := ⟨gb226, 0, none⟩) (Kd.N_mono HO222.out (fun k_ hk => (⟨hk, hk.1.1.2⟩ : _ ∧ k_ ≠ gb226))) (fun _ hk => hk.2) (.slice Ao26 t230.length co26)) (fun _ hk => hk.2) (.int .i64 t233)) (fun _ h_ => h_.1))) (Kd.N_base ho0) hb); have n2_ := b' (Kd.R_below (Kd.kR (Kd.R_mono (Kd.R_far (p := ⟨gb226, 1, none⟩) (Kd.R_far (p := ⟨gb226, 0, none⟩) (Kd.R_types HO229.out BK226.out (by decide)) (fun _ hk => hk.2) (.slice Ao26 t230.length co26)) (fun _ hk => hk.2) (.int .i64 t233)) (fun _ h_ => h_.1))) hb); have n3_ := b' (Kd.N_elder' (Kd.kN (Kd.N_mono (Kd.N_far (p := ⟨gb226, 1, none⟩) (Kd.N_far (p := ⟨gb226, 0, none⟩) (Kd.N_mono HO232.out (fun k_ hk => (⟨hk, hk.2.2.2⟩ : _ ∧ k_ ≠ gb226))) (fun _ hk => hk.2) (.slice Ao26 t230.length co26)) (fun _ hk => hk.2) (.int .i64 t233)) (fun _ h_ => h_.1))) (Kd.N_base ho0) hb); have n4_ := b' (Kd.N_lower (Kd.N_mono (ok' := fun k_ => some k_ ≠ (.slice Ao15 y217.length co15 : Value).ownBlock ∧ some k_ ≠ (.slice Ao18 t220.length co18 : Value).ownBlock ∧ some k_ ≠ (.slice Ao24 y227.length co24 : Value).ownBlock ∧ some k_ ≠ (.slice Ao26 t230.length co26 : Value).ownBlock ∧ k_ ≠ gb226) ho0 (fun k_ hk_ => ⟨(Kd.fresh' (Kd.R_lt (Kd.kR (Kd.R_mono (Kd.R_far (p := ⟨gb226, 1, none⟩) (Kd.R_far (p := ⟨gb226, 0, none⟩) (Kd.R_types HO219.out BK226.out (by decide)) (fun _ hk => hk.2) (.slice Ao26 t230.length co26)) (fun _ hk => hk.2) (.int .i64 t233)) (fun _ h_ => h_.1)))) k_ hk_), (Kd.fresh' (Kd.N_lt (Kd.kN (Kd.N_mono (Kd.N_far (p := ⟨gb226, 1, none⟩) (Kd.N_far (p := ⟨gb226, 0, none⟩) (Kd.N_mono HO222.out (fun k_ hk => (⟨hk, hk.1.1.2⟩ : _ ∧ k_ ≠ gb226))) (fun _ hk => hk.2) (.slice Ao26 t230.length co26)) (fun _ hk => hk.2) (.int .i64 t233)) (fun _ h_ => h_.1)))) k_ hk_), (Kd.fresh' (Kd.R_lt (Kd.kR (Kd.R_mono (Kd.R_far (p := ⟨gb226, 1, none⟩) (Kd.R_far (p := ⟨gb226, 0, none⟩) (Kd.R_types HO229.out BK226.out (by decide)) (fun _ hk => hk.2) (.slice Ao26 t230.length co26)) (fun _ hk => hk.2) (.int .i64 t233)) (fun _ h_ => h_.1)))) k_ hk_), (Kd.fresh' (Kd.N_lt (Kd.kN (Kd.N_mono (Kd.N_far (p := ⟨gb226, 1, none⟩) (Kd.N_far (p := ⟨gb226, 0, none⟩) (Kd.N_mono HO232.out (fun k_ hk => (⟨hk, hk.2.2.2⟩ : _ ∧ k_ ≠ gb226))) (fun _ hk => hk.2) (.slice Ao26 t230.length co26)) (fun _ hk => hk.2) (.int .i64 t233)) (fun _ h_ => h_.1)))) k_ hk_), (Kd.freshB (g := gb226) (o := .cells #[.slice Ao26 t230.length co26, .int .i64 t233] 27 (0, 0)) (by refine eK ?_; refine blk_put (cs := #[.slice Ao26 t230.length co26, .int .i64 t223]) ?_ 1 _ rfl; refine eK ?_; refine blk_put (cs := #[.slice Ao18 t220.length co18, .int .i64 t223]) ?_ 0 _ rfl; refine eK ?_; exact BK226.out) k_ hk_)⟩)) (below_size (eH HB))); have n5_ := b' (blk_below (g := gb226) (o := .cells #[.slice Ao26 t230.length co26, .int .i64 t233] 27 (0, 0)) (by refine eK ?_; refine blk_put (cs := #[.slice Ao26 t230.length co26, .int .i64 t223]) ?_ 1 _ rfl; refine eK ?_; refine blk_put (cs := #[.slice Ao18 t220.length co18, .int .i64 t223]) ?_ 0 _ rfl; refine eK ?_; exact BK226.out) hb); have n6_ := b' (below_step (eH HB) hb); clear HO219; clear HO222; clear HO229; clear HO232; clear BK226; clear HB; have HO219 := n0_; have HO222 := n1_; have HO229 := n2_; have HO232 := n3_; have HO238 := n4_; have BK226 := n5_; have HB := n6_; clear n0_ n1_ n2_ n3_ n4_ n5_ n6_; (try clear hb); (try clear hb2); (try clear hk); (try clear hi); (try clear ho0)) | ((with_reducible refine gate_callee (f := 14) rfl ?_); refine goesL_ (some 28) rfl rfl Try.func14 (by kernel_rfl) rfl #[.int .i64 t225] rfl (by (try simp only [List.map_toArray, List.map_cons, List.map_nil]); first | done | rfl | (simp only [List.length_drop, List.length_take]; rfl)) ?_; (with_reducible refine (fanlightlaw06_num.calls t225 t240 _ A5.out).mono ?_); rintro e w' ⟨rfl, ⟨nd, rfl⟩⟩; refine ⟨_, rfl, ?_⟩) | ((with_reducible refine gate_callee (f := 14) rfl ?_); refine goesL_ (some 30) rfl rfl Try.func14 (by kernel_rfl) rfl #[.int .i64 t235] rfl (by (try simp only [List.map_toArray, List.map_cons, List.map_nil]); first | done | rfl | (simp only [List.length_drop, List.length_take]; rfl)) ?_; (with_reducible refine (fanlightlaw06_num.calls t235 t241 _ A6.out).mono ?_); rintro e w' ⟨rfl, ⟨nd, rfl⟩⟩; refine ⟨_, rfl, ?_⟩) | ((with_reducible refine gate_callee (f := 14) rfl ?_); refine goesL_ (some 33) rfl rfl Try.func14 (by kernel_rfl) rfl #[.int .i64 t239] rfl (by (try simp only [List.map_toArray, List.map_cons, List.map_nil]); first | done | rfl | (simp only [List.length_drop, List.length_take]; rfl)) ?_; (with_reducible refine (fanlightlaw06_num.calls t239 t242 _ A7.out).mono ?_); rintro e w' ⟨rfl, ⟨nd, rfl⟩⟩; refine ⟨_, rfl, ?_⟩; obtain ⟨Ao31, co31, eo31⟩ := Kd.N_slice HO238.out; subst eo31; have p243 : 0 ≤ (1 : Int) := (by omega); have q243 : 1 < (t236.length : Int) := oD; obtain ⟨ad243, A243_1, c243_1, e243, hx243_0, hx243_1, hl243_1, hi243_1⟩ := at_T60 (Kd.N_reads' HO238.out).2.2 1 p243 q243; cases e243; obtain ⟨ce243, hce243, hMe243, hcc243⟩ := Kd.N_get HO238.out z60 1 p243 (by first | exact q243 | exact oD | (have e_ := (Kd.N_reads' HO238.out).1; omega)); obtain ⟨ua243_1, uc243_1, rfl, ul243_1, ge243_1⟩ := k60_openF hMe243; have hv243_1 := hcc243 1 _ rfl; rw [add_field _ _ 1 (by omega)] at hv243_1; replace hv243_1 := Option.some.inj (hv243_1.symm.trans hx243_1); injection hv243_1 with hva_ hvn_ hvc_; rw [hva_] at ge243_1; rw [hvc_] at ul243_1; have HL243_1 := b' (show Kd.V (Kd.int .u8) 5 _ w.heap.size _ _ ((rd_T60 t236 1).f1) from Kd.V_mk ul243_1 ge243_1); clear hva_ hvn_ hvc_ ge243_1 ul243_1; clear hcc243 hce243; (try simp only [show (1 : Int).toNat = 1 from rfl, Nat.reduceMul, Nat.reduceEqDiff, Go.Addr.add, ↓reduceIte] at hx243_0); (try simp only [show (1 : Int).toNat = 1 from rfl, Nat.reduceMul, Nat.reduceEqDiff, Go.Addr.add, ↓reduceIte] at hx243_1); have qi243 : (1 < t236.length) = True := eq_true (by omega); (try rw [show ((1 : Int)).toNat = 1 from rfl] at hx243_0); (try rw [show 1 * 2 = 2 from rfl] at hx243_0); (try rw [show ((1 : Int)).toNat = 1 from rfl] at hx243_1); (try rw [show 1 * 2 = 2 from rfl] at hx243_1); have HR243_1 := b' hi243_1; have HC243_1 := b' hl243_1; clear hi243_1 hl243_1; replace p243 := eq_true p243; replace q243 := eq_true q243))
       go_ret
       exact ⟨eE, eH HB⟩
      ·
       rw [if_neg c12] at H
       exact absurd H (by simp)
     ·
      rw [if_neg c11] at H
      have c11b0 : ((t236.length : Int) == 2) = false := beq_eq_false_iff_ne.mpr c11
      have c11b1 : ((t236.length : Int) != 2) = true := bne_iff_ne.mpr c11
      obtain rfl := Option.some.inj H
      cases hT
    ·
     rw [if_neg c10] at H
     have c10b0 : (t234 == 1) = false := beq_eq_false_iff_ne.mpr c10
     have c10b1 : (t234 != 1) = true := bne_iff_ne.mpr c10
     obtain rfl := Option.some.inj H
     cases hT
   ·
    rw [if_neg c9] at H
    have c9b0 : (t224 == 0) = false := beq_eq_false_iff_ne.mpr c9
    have c9b1 : (t224 != 0) = true := bne_iff_ne.mpr c9
    obtain rfl := Option.some.inj H
    cases hT
  ·
   rw [if_neg c8] at H
   have c8b0 : ((wrap64 ((wrap64 (t240 + t241)) + t242)) == 0) = false := beq_eq_false_iff_ne.mpr c8
   have c8b1 : ((wrap64 ((wrap64 (t240 + t241)) + t242)) != 0) = true := bne_iff_ne.mpr c8
   obtain rfl := Option.some.inj H
   cases hT
 ·
  rw [if_neg c1] at H
  exact absurd H (by simp)
end Go.Proofs.Ytgmkgobapeencaa.S
