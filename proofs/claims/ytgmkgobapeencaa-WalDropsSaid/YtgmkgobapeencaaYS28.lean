import Derived.Test.YtgmkgobapeencaaYS0
import Derived.Test.YtgmkgobapeencaaYS15
import Derived.Test.YtgmkgobapeencaaYS16
import Derived.Test.YtgmkgobapeencaaYS24
import Derived.Test.YtgmkgobapeencaaYS25
import Derived.Test.YtgmkgobapeencaaYS27
namespace Go.Proofs.Ytgmkgobapeencaa.S
open Go.Proofs.YtgmkgobapeencaaW.PrintWords.Kd renaming N_mono → a'
open List renaming map_toArray → b', map_cons → c', map_nil → d', length_drop → e', length_take → f'
open Go.Proofs.YtgmkgobapeencaaW.PrintWords.Aside0 renaming mk → g'
open Go.RowKit Go.Proofs.YtgmkgobapeencaaW.PrintWords Go.Proofs.YtgmkgobapeencaaW.PrintLast Go.Proofs.YtgmkgobapeencaaW.PrintMore
attribute [local go_sem] max2_int min2_int max_two min_two max_three min_three max_four min_four
set_option linter.unusedVariables false
set_option linter.unusedSimpArgs false
mutual
def fanlightlaw06_WalDrops.j0 : Nat → Int → List (S57) → Bool → List (List Int) → Int → Option (Bool)
 | 0, _, _, _, _, _ => none
 | k + 1, x2, x8, x28, x577000, x577001 => if x28 = true then (some false) else ((wal_Drop.f k x577000 x577001 x2).bind fun bt578 => ((wal_Records.f k bt578.1 bt578.2.1).bind fun bt584 => ((fanlightlaw06_num.f bt578.2.2).bind fun t588 => ((fanlightlaw06_num.f bt584.2).bind fun t589 => (if (wrap64 (t588 + t589)) = 0 then (if bt578.2.1 = x577001 then (if (bt584.1.length : Int) > (x8.length : Int) then (fanlightlaw06_WalDrops.j1 k x2 x8 bt584.1 true) else (fanlightlaw06_WalDrops.j1 k x2 x8 bt584.1 (decide ((bt578.1.length : Int) > (x577000.length : Int))))) else (fanlightlaw06_WalDrops.j1 k x2 x8 bt584.1 true)) else (fanlightlaw06_WalDrops.j1 k x2 x8 bt584.1 true))))))
def fanlightlaw06_WalDrops.j1 : Nat → Int → List (S57) → List (S60) → Bool → Option (Bool)
 | 0, _, _, _, _ => none
 | k + 1, x2, x8, x12, x68 => if x68 = true then (some false) else (if 0 ≤ (wrap64 ((x8.length : Int) - (x12.length : Int))) then (if (wrap64 ((x8.length : Int) - (x12.length : Int))) ≤ (x8.length : Int) then (fanlightlaw06_WalDrops.l0 k x2 x8 x12 (x8.take ((wrap64 ((x8.length : Int) - (x12.length : Int))) : Int).toNat) 0) else (none)) else (none))
def fanlightlaw06_WalDrops.l0 : Nat → Int → List (S57) → List (S60) → List (S57) → Int → Option (Bool)
 | 0, _, _, _, _, _ => none
 | k + 1, x2, x8, x12, x14, x15 => if x15 < (x14.length : Int) then (if 0 ≤ x15 then (if ((rd_T57 x14 x15).f0) > x2 then (some false) else (fanlightlaw06_WalDrops.l0 k x2 x8 x12 x14 (wrap64 (x15 + 1)))) else (none)) else (if 0 ≤ (x14.length : Int) then (if (x14.length : Int) ≤ (x8.length : Int) then ((fanlightlaw06_same.f k x12 (x8.drop ((x14.length : Int) : Int).toNat)).bind fun t601 => (some t601)) else (none)) else (none))
end
def fanlightlaw06_WalDrops.f (k : Nat) (a0 : Int) (l1 : List (List Int)) (a2 : Int) : Option (Bool) := (fanlightlaw06_filled.f k a0 l1).bind fun bt568 => ((fanlightlaw06_alive.f k).bind fun t577 => (if t577 = true then (fanlightlaw06_WalDrops.j0 k a2 bt568.2.2.1 (!bt568.2.2.2) bt568.1 bt568.2.1) else (fanlightlaw06_WalDrops.j0 k a2 bt568.2.2.1 true bt568.1 bt568.2.1)))
theorem fanlightlaw06_WalDrops.mono_l : ∀ k, (∀ y0 y1 y2 y3 y4, LeO (fanlightlaw06_WalDrops.j0 k y0 y1 y2 y3 y4) (fanlightlaw06_WalDrops.j0 (k + 1) y0 y1 y2 y3 y4)) ∧ (∀ y0 y1 y2 y3, LeO (fanlightlaw06_WalDrops.j1 k y0 y1 y2 y3) (fanlightlaw06_WalDrops.j1 (k + 1) y0 y1 y2 y3)) ∧ (∀ y0 y1 y2 y3 y4, LeO (fanlightlaw06_WalDrops.l0 k y0 y1 y2 y3 y4) (fanlightlaw06_WalDrops.l0 (k + 1) y0 y1 y2 y3 y4))
 | 0 => ⟨fun _ _ _ _ _ r h => by simp [fanlightlaw06_WalDrops.j0] at h, fun _ _ _ _ r h => by simp [fanlightlaw06_WalDrops.j1] at h, fun _ _ _ _ _ r h => by simp [fanlightlaw06_WalDrops.l0] at h⟩
 | k + 1 => by
  obtain ⟨ih0, ih1, ih2⟩ := fanlightlaw06_WalDrops.mono_l k
  refine ⟨?_, ?_, ?_⟩
  ·
   intro y0 y1 y2 y3 y4
   unfold fanlightlaw06_WalDrops.j0
   repeat' first
   | (with_reducible exact ih0 _ _ _ _ _)
   | (with_reducible exact ih1 _ _ _ _)
   | (with_reducible exact ih2 _ _ _ _ _)
   | (with_reducible exact fanlightlaw06_alive.mono _)
   | (with_reducible exact fanlightlaw06_filled.mono _ _ _)
   | (with_reducible exact fanlightlaw06_same.mono _ _ _)
   | (with_reducible exact wal_Drop.mono _ _ _ _)
   | (with_reducible exact wal_Records.mono _ _ _)
   | (with_reducible exact LeO.refl _)
   | (with_reducible exact LeO.none _)
   | (with_reducible refine LeO.ite ?_ ?_)
   | (with_reducible refine LeO.bind ?_ (fun _ => ?_))
  ·
   intro y0 y1 y2 y3
   unfold fanlightlaw06_WalDrops.j1
   repeat' first
   | (with_reducible exact ih0 _ _ _ _ _)
   | (with_reducible exact ih1 _ _ _ _)
   | (with_reducible exact ih2 _ _ _ _ _)
   | (with_reducible exact fanlightlaw06_alive.mono _)
   | (with_reducible exact fanlightlaw06_filled.mono _ _ _)
   | (with_reducible exact fanlightlaw06_same.mono _ _ _)
   | (with_reducible exact wal_Drop.mono _ _ _ _)
   | (with_reducible exact wal_Records.mono _ _ _)
   | (with_reducible exact LeO.refl _)
   | (with_reducible exact LeO.none _)
   | (with_reducible refine LeO.ite ?_ ?_)
   | (with_reducible refine LeO.bind ?_ (fun _ => ?_))
  ·
   intro y0 y1 y2 y3 y4
   unfold fanlightlaw06_WalDrops.l0
   repeat' first
   | (with_reducible exact ih0 _ _ _ _ _)
   | (with_reducible exact ih1 _ _ _ _)
   | (with_reducible exact ih2 _ _ _ _ _)
   | (with_reducible exact fanlightlaw06_alive.mono _)
   | (with_reducible exact fanlightlaw06_filled.mono _ _ _)
   | (with_reducible exact fanlightlaw06_same.mono _ _ _)
   | (with_reducible exact wal_Drop.mono _ _ _ _)
   | (with_reducible exact wal_Records.mono _ _ _)
   | (with_reducible exact LeO.refl _)
   | (with_reducible exact LeO.none _)
   | (with_reducible refine LeO.ite ?_ ?_)
   | (with_reducible refine LeO.bind ?_ (fun _ => ?_))
theorem fanlightlaw06_WalDrops.mono : ∀ a0 a1 a2 k, LeO (fanlightlaw06_WalDrops.f k a0 a1 a2) (fanlightlaw06_WalDrops.f (k + 1) a0 a1 a2) := by
 intro a0 a1 a2 k
 obtain ⟨ih0, ih1, ih2⟩ := fanlightlaw06_WalDrops.mono_l k
 unfold fanlightlaw06_WalDrops.f
 repeat' first
   | (with_reducible exact ih0 _ _ _ _ _)
   | (with_reducible exact ih1 _ _ _ _)
   | (with_reducible exact ih2 _ _ _ _ _)
   | (with_reducible exact fanlightlaw06_alive.mono _)
   | (with_reducible exact fanlightlaw06_filled.mono _ _ _)
   | (with_reducible exact fanlightlaw06_same.mono _ _ _)
   | (with_reducible exact wal_Drop.mono _ _ _ _)
   | (with_reducible exact wal_Records.mono _ _ _)
   | (with_reducible exact LeO.refl _)
   | (with_reducible exact LeO.none _)
   | (with_reducible refine LeO.ite ?_ ?_)
   | (with_reducible refine LeO.bind ?_ (fun _ => ?_))
set_option maxHeartbeats 8000000 in
set_option maxRecDepth 100000 in
theorem fanlightlaw06_WalDrops.calls (k : Nat) (a0 : Int) (A1 : Option Addr) (c1 : Nat) (l1 : List (List Int)) (a2 : Int) (r : Bool) (w : World) (hr1 : Kd.C (Kd.slice 5 (Kd.int .u8)) w A1 l1.length l1) (hc1 : l1.length ≤ c1) (h : fanlightlaw06_WalDrops.f k a0 l1 a2 = some r) (hT : r = true) (hA : ∀ (k : Nat) (r : Bool), fanlightlaw06_alive.f k = some r → r = true) :
  Calls Try.prog 5 #[.int .i64 a0, .slice A1 l1.length c1, .int .i64 a2] w fun e w' => e = .returned (.bool r) ∧ Below w.heap.size w w' := by
 have hu27 := Try.underlying27
 have HR1 := g' hr1
 have HC1 := g' hc1
 clear hr1 hc1
 have HB := g' (Below.refl w.heap.size w)
 have H : ((fanlightlaw06_filled.f k a0 l1).bind fun bt568 => ((fanlightlaw06_alive.f k).bind fun t577 => (if t577 = true then (fanlightlaw06_WalDrops.j0 k a2 bt568.2.2.1 (!bt568.2.2.2) bt568.1 bt568.2.1) else (fanlightlaw06_WalDrops.j0 k a2 bt568.2.2.1 true bt568.1 bt568.2.1)))) = some r := h
 clear h
 replace H := Option.bind_eq_some_iff.mp H
 obtain ⟨⟨t568, t571, t572, t575⟩, A40, H⟩ := H
 (try dsimp only at H)
 have A4 := g' A40
 clear A40
 have HC5 := g' H
 clear H
 go_enter Try.func5, Try.ntmps5
 go_upto_region 2 with (first | ((with_reducible refine gate_callee (f := 24) rfl ?_); refine goesL_ (some 19) rfl rfl Try.func24 (by kernel_rfl) rfl #[.int .i64 a0, .slice A1 l1.length c1] rfl (by (try simp only [b', c', d']); first | done | rfl | (simp only [e', f']; rfl)) ?_; (with_reducible refine (fanlightlaw06_filled.calls k a0 (fun k_ => k_ < w.heap.size) _ _ l1 t568 t571 t572 t575 _ ?side1 A4.out).mono ?_); (case side1 => exact Kd.V_mk HC1.out (Kd.F_below (Kd.C_F (Kd.heap_slice _ (Kd.heap_int .u8)) HR1.out) (eH HB))); rintro e w6 ⟨v569, v573, rfl, ho0, ho1, hb⟩; refine ⟨_, rfl, ?_⟩; have n0_ := g' (Kd.N_lower (a' (ok' := fun k_ => some k_ ≠ (v573 : Value).ownBlock) ho0 (fun k_ hk_ => hk_.2)) (below_size (eH HB))); have n1_ := g' (Kd.N_lower (a' (ok' := fun k_ => some k_ ≠ (v569 : Value).ownBlock) ho1 (fun k_ hk_ => hk_.2)) (below_size (eH HB))); have n2_ := g' (below_step (eH HB) hb); clear HB; have HO570 := n0_; have HO574 := n1_; have HB := n2_; clear n0_ n1_ n2_; (try clear hb); (try clear hb2); (try clear hk); (try clear hi); (try clear ho0); (try clear ho1)) | ((with_reducible refine gate_dst (N := 7) rfl ?_); (try (refine gate_guard (by rfl) ?_; dsimp only)); refine box_event ?hg (N := 7) ?hd (cs := #[.slice none 0 0, .int .i64 0]) (t := 27) ?hr ?_; (case hd => rfl); (case hg => rfl); (case hr => go_simp <;> rfl); intro gb576 hg w7 hbox hb; have n0_ := g' (Kd.N_below (Kd.N_elderB (Kd.eN HO570) gb576 (Nat.le_of_eq hg.symm)) hb); have n1_ := g' (Kd.N_below (Kd.N_elderB (Kd.eN HO574) gb576 (Nat.le_of_eq hg.symm)) hb); have n2_ := g' (below_step (eH HB) hb); have n3_ := g' (hbox); have n4_ := g' ((by rw [hg]; exact (below_size (eH HB)) : w.heap.size ≤ gb576)); have n5_ := g' ((by rw [hg]; exact (below_size (eH HB)) : w.heap.size ≤ gb576)); clear HO570; clear HO574; clear HB; have HO570 := n0_; have HO574 := n1_; have HB := n2_; have BK576 := n3_; have GW576 := n4_; have GE576 := n5_; clear n0_ n1_ n2_ n3_ n4_ n5_; clear hb hbox hg; obtain ⟨Ao8, co8, eo8⟩ := Kd.N_slice HO570.out; subst eo8; have hcz9_0 : w7.cell? ⟨gb576, 0, none⟩ = some (.slice none 0 0) := (blk_cell BK576.out 0).trans rfl; have hcz9_1 : w7.cell? ⟨gb576, 1, none⟩ = some (.int .i64 0) := (blk_cell BK576.out 1).trans rfl; have hfz9_0 := blk_frozen BK576.out 0; have hfz9_1 := blk_frozen BK576.out 1))
 (try simp only [Act.put, List.setIfInBounds_toArray, List.set_cons_zero, List.set_cons_succ])
 go_cut [28] (fun v28 wc => ∃ (kq : Nat) (x28_4 : Bool), v28 = .bool x28_4 ∧ Aside0 (fanlightlaw06_WalDrops.j0 kq a2 t572 x28_4 t568 t571 = some r) ∧ Aside0 (kq ≤ k) ∧ Aside0 (Kd.N k57 57 wc w.heap.size (fun k_ => some k_ ≠ ((.slice Ao8 t568.length co8) : Value).ownBlock ∧ k_ ≠ gb576) v573 t572) ∧ Aside0 (Kd.N (Kd.slice 5 (Kd.int .u8)) 25 wc w.heap.size (fun k_ => some k_ ≠ (v573 : Value).ownBlock ∧ k_ ≠ gb576) (.slice Ao8 t568.length co8) t568) ∧ Aside0 (wc.heap[gb576]? = some (.cells #[(.slice Ao8 t568.length co8), .int .i64 t571] 27 (0, 0))) ∧ Aside0 (Below w.heap.size w wc))
 case first =>
  have H := HC5.out
  clear HC5
  replace H := Option.bind_eq_some_iff.mp H
  obtain ⟨t577, A100, H⟩ := H
  (try dsimp only at H)
  have A10 := g' A100
  clear A100
  by_cases c11 : t577 = true
  ·
   subst c11
   have H1 : (fanlightlaw06_WalDrops.j0 k a2 t572 (!t575) t568 t571) = some r := by rw [if_pos rfl] at H; exact H
   clear H
   have H := H1
   clear H1
   have H' := g' H
   clear H
   go_wp2_with (first | ((with_reducible refine gate_callee (f := 8) rfl ?_); refine goesL_ (some 23) rfl rfl Try.func8 (by kernel_rfl) rfl #[] rfl (by (try simp only [b', c', d']); first | done | rfl | (simp only [e', f']; rfl)) ?_; (with_reducible refine (fanlightlaw06_alive.calls k  true _ A10.out (hA _ _ A10.out)).mono ?_); rintro e w12 ⟨rfl, hb⟩; refine ⟨_, rfl, ?_⟩; have n0_ := g' (Kd.N_below (Kd.kN (a' (Kd.N_far (p := ⟨gb576, 1, none⟩) (Kd.N_far (p := ⟨gb576, 0, none⟩) (a' HO570.out (fun k_ hk => (⟨hk, hk.2⟩ : _ ∧ k_ ≠ gb576))) (fun _ hk => hk.2) (.slice Ao8 t568.length co8)) (fun _ hk => hk.2) (.int .i64 t571)) (fun _ h_ => h_.1))) hb); have n1_ := g' (Kd.N_below (Kd.kN (a' (Kd.N_far (p := ⟨gb576, 1, none⟩) (Kd.N_far (p := ⟨gb576, 0, none⟩) (a' HO574.out (fun k_ hk => (⟨hk, hk.2⟩ : _ ∧ k_ ≠ gb576))) (fun _ hk => hk.2) (.slice Ao8 t568.length co8)) (fun _ hk => hk.2) (.int .i64 t571)) (fun _ h_ => h_.1))) hb); have n2_ := g' (blk_below (g := gb576) (o := .cells #[.slice Ao8 t568.length co8, .int .i64 t571] 27 (0, 0)) (by refine eK ?_; refine blk_put (cs := #[.slice Ao8 t568.length co8, .int .i64 0]) ?_ 1 _ rfl; refine eK ?_; refine blk_put (cs := #[.slice none 0 0, .int .i64 0]) ?_ 0 _ rfl; refine eK ?_; exact BK576.out) hb); have n3_ := g' (below_step (eH HB) hb); clear HO570; clear HO574; clear BK576; clear HB; have HO570 := n0_; have HO574 := n1_; have BK576 := n2_; have HB := n3_; clear n0_ n1_ n2_ n3_; (try clear hb); (try clear hb2); (try clear hk); (try clear hi)))
   go_meet
   case rel => exact ⟨_, (!t575), (by first | rfl | (simp; done) | (simp [*]; done)), H', ⟨by first | omega | exact Nat.le_refl _⟩, ⟨Kd.eN HO574⟩, ⟨Kd.eN HO570⟩, ⟨eB BK576⟩, ⟨eH HB⟩⟩
  ·
   replace c11 := Bool.eq_false_iff.mpr c11
   subst c11
   have H1 : (fanlightlaw06_WalDrops.j0 k a2 t572 true t568 t571) = some r := by rw [if_neg (show ¬ (false = true) by decide)] at H; exact H
   clear H
   have H := H1
   clear H1
   have H' := g' H
   clear H
   go_wp2_with (first | ((with_reducible refine gate_callee (f := 8) rfl ?_); refine goesL_ (some 23) rfl rfl Try.func8 (by kernel_rfl) rfl #[] rfl (by (try simp only [b', c', d']); first | done | rfl | (simp only [e', f']; rfl)) ?_; (with_reducible refine (fanlightlaw06_alive.calls k  false _ A10.out (hA _ _ A10.out)).mono ?_); rintro e w13 ⟨rfl, hb⟩; refine ⟨_, rfl, ?_⟩; have n0_ := g' (Kd.N_below (Kd.kN (a' (Kd.N_far (p := ⟨gb576, 1, none⟩) (Kd.N_far (p := ⟨gb576, 0, none⟩) (a' HO570.out (fun k_ hk => (⟨hk, hk.2⟩ : _ ∧ k_ ≠ gb576))) (fun _ hk => hk.2) (.slice Ao8 t568.length co8)) (fun _ hk => hk.2) (.int .i64 t571)) (fun _ h_ => h_.1))) hb); have n1_ := g' (Kd.N_below (Kd.kN (a' (Kd.N_far (p := ⟨gb576, 1, none⟩) (Kd.N_far (p := ⟨gb576, 0, none⟩) (a' HO574.out (fun k_ hk => (⟨hk, hk.2⟩ : _ ∧ k_ ≠ gb576))) (fun _ hk => hk.2) (.slice Ao8 t568.length co8)) (fun _ hk => hk.2) (.int .i64 t571)) (fun _ h_ => h_.1))) hb); have n2_ := g' (blk_below (g := gb576) (o := .cells #[.slice Ao8 t568.length co8, .int .i64 t571] 27 (0, 0)) (by refine eK ?_; refine blk_put (cs := #[.slice Ao8 t568.length co8, .int .i64 0]) ?_ 1 _ rfl; refine eK ?_; refine blk_put (cs := #[.slice none 0 0, .int .i64 0]) ?_ 0 _ rfl; refine eK ?_; exact BK576.out) hb); have n3_ := g' (below_step (eH HB) hb); clear HO570; clear HO574; clear BK576; clear HB; have HO570 := n0_; have HO574 := n1_; have BK576 := n2_; have HB := n3_; clear n0_ n1_ n2_ n3_; (try clear hb); (try clear hb2); (try clear hk); (try clear hi)))
   go_meet
   case rel => exact ⟨_, (true), (by first | rfl | (simp; done) | (simp [*]; done)), H', ⟨by first | omega | exact Nat.le_refl _⟩, ⟨Kd.eN HO574⟩, ⟨Kd.eN HO570⟩, ⟨eB BK576⟩, ⟨eH HB⟩⟩
 case rest =>
  clear HC5
  try clear c1
  try clear c2
  try clear p2
  try clear c5
  try clear c8
  try clear c11
  try clear hcz9_0
  try clear hcz9_1
  try clear hfz9_0
  try clear hfz9_1
  obtain ⟨kq, x28_4, rfl, HA, HJ4, HO_8, HO_577000, BK576, HB⟩ := hcut
  cases kq with
  | zero => exact absurd HA.out (by simp [fanlightlaw06_WalDrops.j0])
  | succ kj4 =>
   have H := HA.out
   clear HA
   simp only [fanlightlaw06_WalDrops.j0] at H
   by_cases c14 : x28_4 = true
   ·
    subst c14
    have H1 : (some false) = some r := by rw [if_pos rfl] at H; exact H
    clear H
    have H := H1
    clear H1
    obtain rfl := Option.some.inj H
    cases hT
   ·
    replace c14 := Bool.eq_false_iff.mpr c14
    subst c14
    have H1 : ((wal_Drop.f kj4 t568 t571 a2).bind fun bt578 => ((wal_Records.f kj4 bt578.1 bt578.2.1).bind fun bt584 => ((fanlightlaw06_num.f bt578.2.2).bind fun t588 => ((fanlightlaw06_num.f bt584.2).bind fun t589 => (if (wrap64 (t588 + t589)) = 0 then (if bt578.2.1 = t571 then (if (bt584.1.length : Int) > (t572.length : Int) then (fanlightlaw06_WalDrops.j1 kj4 a2 t572 bt584.1 true) else (fanlightlaw06_WalDrops.j1 kj4 a2 t572 bt584.1 (decide ((bt578.1.length : Int) > (t568.length : Int))))) else (fanlightlaw06_WalDrops.j1 kj4 a2 t572 bt584.1 true)) else (fanlightlaw06_WalDrops.j1 kj4 a2 t572 bt584.1 true)))))) = some r := by rw [if_neg (show ¬ (false = true) by decide)] at H; exact H
    clear H
    have H := H1
    clear H1
    replace H := Option.bind_eq_some_iff.mp H
    obtain ⟨⟨t578, t581, t582⟩, A150, H⟩ := H
    (try dsimp only at H)
    have A15 := g' A150
    clear A150
    replace H := Option.bind_eq_some_iff.mp H
    obtain ⟨⟨t584, t587⟩, A160, H⟩ := H
    (try dsimp only at H)
    have A16 := g' A160
    clear A160
    have HC17 := g' H
    clear H
    have hcz18_0 : wc.cell? ⟨gb576, 0, none⟩ = some (.slice Ao8 t568.length co8) := (blk_cell BK576.out 0).trans rfl
    have hcz18_1 : wc.cell? ⟨gb576, 1, none⟩ = some (.int .i64 t571) := (blk_cell BK576.out 1).trans rfl
    have hfz18_0 := blk_frozen BK576.out 0
    have hfz18_1 := blk_frozen BK576.out 1
    go_upto_region 6 with (first | ((with_reducible refine gate_callee (f := 18) rfl ?_); refine goesL_ (some 32) rfl rfl Try.func18 (by kernel_rfl) rfl #[.agg #[.slice Ao8 t568.length co8, .int .i64 t571], .int .i64 a2] rfl (by (try simp only [b', c', d']); first | done | rfl | (simp only [e', f']; rfl)) ?_; (with_reducible refine (wal_Drop.calls kj4 _ _ t568 t571 a2 t578 t581 t582 _ ?side1 ?side2 A15.out).mono ?_); (case side1 => exact Kd.kC (Kd.N_reads' HO_577000.out).2.2); (case side2 => exact (Kd.N_reads' HO_577000.out).2.1); rintro e w19 ⟨v579, rfl, ho0, hb⟩; refine ⟨_, rfl, ?_⟩; have n0_ := g' (Kd.N_elder' (Kd.eN HO_8) (Kd.Q_base ho0) hb); have n1_ := g' (Kd.N_elder' (Kd.eN HO_577000) (Kd.Q_base ho0) hb); have n2_ := g' (Kd.Q_lower (Kd.Q_new' ho0 (Kd.N_lt (Kd.eN HO_577000))) (below_size (eH HB))); have n3_ := g' (blk_below (g := gb576) (o := .cells #[.slice Ao8 t568.length co8, .int .i64 t571] 27 (0, 0)) (eB BK576) hb); have n4_ := g' (below_step (eH HB) hb); clear HO_8; clear HO_577000; clear BK576; clear HB; have HO_8 := n0_; have HO_577000 := n1_; have HO580 := n2_; have BK576 := n3_; have HB := n4_; clear n0_ n1_ n2_ n3_ n4_; (try clear hb); (try clear hb2); (try clear hk); (try clear hi); (try clear ho0)) | ((with_reducible refine gate_dst (N := 10) rfl ?_); (try (refine gate_guard (by rfl) ?_; dsimp only)); refine box_event ?hg (N := 10) ?hd (cs := #[.slice none 0 0, .int .i64 0]) (t := 27) ?hr ?_; (case hd => rfl); (case hg => rfl); (case hr => go_simp <;> rfl); intro gb583 hg w20 hbox hb; have n0_ := g' (Kd.N_below (Kd.N_elderB (Kd.eN HO_8) gb583 (Nat.le_of_eq hg.symm)) hb); have n1_ := g' (Kd.N_below (Kd.N_elderB (Kd.eN HO_577000) gb583 (Nat.le_of_eq hg.symm)) hb); have n2_ := g' (Kd.Q_below (Kd.eQ HO580) hb); have n3_ := g' (blk_below (g := gb576) (o := .cells #[.slice Ao8 t568.length co8, .int .i64 t571] 27 (0, 0)) (eB BK576) hb); have n4_ := g' (below_step (eH HB) hb); have n5_ := g' (hbox); have n6_ := g' ((by rw [hg]; exact (below_size (eH HB)) : w.heap.size ≤ gb583)); have n7_ := g' ((by rw [hg]; exact (below_size (eH HB)) : w.heap.size ≤ gb583)); have n8_ := g' ((by rw [hg]; exact Nat.ne_of_lt (blk_lt (g := gb576) (o := .cells #[.slice Ao8 t568.length co8, .int .i64 t571] 27 (0, 0)) (eB BK576)) : gb576 ≠ gb583)); have n9_ := g' ((by rw [hg]; exact Nat.ne_of_gt (blk_lt (g := gb576) (o := .cells #[.slice Ao8 t568.length co8, .int .i64 t571] 27 (0, 0)) (eB BK576)) : gb583 ≠ gb576)); clear HO_8; clear HO_577000; clear HO580; clear BK576; clear HB; have HO_8 := n0_; have HO_577000 := n1_; have HO580 := n2_; have BK576 := n3_; have HB := n4_; have BK583 := n5_; have GW583 := n6_; have GE583 := n7_; have NB576_583 := n8_; have NB583_576 := n9_; clear n0_ n1_ n2_ n3_ n4_ n5_ n6_ n7_ n8_ n9_; clear hb hbox hg; obtain ⟨Ao21, co21, eo21, _⟩ := Kd.Q_slice HO580.out; subst eo21; have hnb22 := NB583_576.out; have hnc22 := NB576_583.out; have hcz23_0 : w20.cell? ⟨gb583, 0, none⟩ = some (.slice none 0 0) := (blk_cell BK583.out 0).trans rfl; have hcz23_1 : w20.cell? ⟨gb583, 1, none⟩ = some (.int .i64 0) := (blk_cell BK583.out 1).trans rfl; have hfz23_0 := blk_frozen BK583.out 0; have hfz23_1 := blk_frozen BK583.out 1) | ((with_reducible refine gate_callee (f := 16) rfl ?_); refine goesL_ (some 37) rfl rfl Try.func16 (by kernel_rfl) rfl #[.agg #[.slice Ao21 t578.length co21, .int .i64 t581]] rfl (by (try simp only [b', c', d']); first | done | rfl | (simp only [e', f']; rfl)) ?_; (with_reducible refine (wal_Records.calls kj4 _ _ t578 t581 t584 t587 _ ?side1 ?side2 A16.out).mono ?_); (case side1 => refine (Kd.Q_reads' (e := 25) (base := w.heap.size) (ok := fun k_ => (True ∧ some k_ ≠ (.slice Ao8 t568.length co8 : Value).ownBlock)) (n := t578.length) (c := co21) ?_).2.2; exact (Kd.kQ (Kd.Q_mono (Kd.Q_far (p := ⟨gb583, 1, none⟩) (Kd.Q_far (p := ⟨gb583, 0, none⟩) (Kd.Q_types HO580.out BK583.out (by decide)) (fun _ hk => hk.2) (.slice Ao21 t578.length co21)) (fun _ hk => hk.2) (.int .i64 t581)) (fun _ h_ => h_.1)))); (case side2 => exact (Kd.Q_reads' HO580.out).2.1); rintro e w24 ⟨v585, rfl, ho0, hb⟩; refine ⟨_, rfl, ?_⟩; have n0_ := g' (Kd.N_elder' (Kd.kN (a' (Kd.N_far (p := ⟨gb583, 1, none⟩) (Kd.N_far (p := ⟨gb583, 0, none⟩) (a' HO_8.out (fun k_ hk => (⟨hk, hk.2⟩ : _ ∧ k_ ≠ gb583))) (fun _ hk => hk.2) (.slice Ao21 t578.length co21)) (fun _ hk => hk.2) (.int .i64 t581)) (fun _ h_ => h_.1))) (Kd.N_base ho0) hb); have n1_ := g' (Kd.N_elder' (Kd.kN (a' (Kd.N_far (p := ⟨gb583, 1, none⟩) (Kd.N_far (p := ⟨gb583, 0, none⟩) (a' HO_577000.out (fun k_ hk => (⟨hk, hk.2⟩ : _ ∧ k_ ≠ gb583))) (fun _ hk => hk.2) (.slice Ao21 t578.length co21)) (fun _ hk => hk.2) (.int .i64 t581)) (fun _ h_ => h_.1))) (Kd.N_base ho0) hb); have n2_ := g' (Kd.Q_below (Kd.kQ (Kd.Q_mono (Kd.Q_far (p := ⟨gb583, 1, none⟩) (Kd.Q_far (p := ⟨gb583, 0, none⟩) (Kd.Q_types HO580.out BK583.out (by decide)) (fun _ hk => hk.2) (.slice Ao21 t578.length co21)) (fun _ hk => hk.2) (.int .i64 t581)) (fun _ h_ => h_.1))) hb); have n3_ := g' (Kd.N_lower (a' (ok' := fun k_ => some k_ ≠ (v573 : Value).ownBlock ∧ some k_ ≠ (.slice Ao8 t568.length co8 : Value).ownBlock ∧ some k_ ≠ (.slice Ao21 t578.length co21 : Value).ownBlock ∧ k_ ≠ gb576 ∧ k_ ≠ gb583) ho0 (fun k_ hk_ => ⟨(Kd.fresh' (Kd.N_lt (Kd.kN (a' (Kd.N_far (p := ⟨gb583, 1, none⟩) (Kd.N_far (p := ⟨gb583, 0, none⟩) (a' HO_8.out (fun k_ hk => (⟨hk, hk.2⟩ : _ ∧ k_ ≠ gb583))) (fun _ hk => hk.2) (.slice Ao21 t578.length co21)) (fun _ hk => hk.2) (.int .i64 t581)) (fun _ h_ => h_.1)))) k_ hk_), (Kd.fresh' (Kd.N_lt (Kd.kN (a' (Kd.N_far (p := ⟨gb583, 1, none⟩) (Kd.N_far (p := ⟨gb583, 0, none⟩) (a' HO_577000.out (fun k_ hk => (⟨hk, hk.2⟩ : _ ∧ k_ ≠ gb583))) (fun _ hk => hk.2) (.slice Ao21 t578.length co21)) (fun _ hk => hk.2) (.int .i64 t581)) (fun _ h_ => h_.1)))) k_ hk_), (Kd.fresh' (Kd.Q_lt (Kd.kQ (Kd.Q_mono (Kd.Q_far (p := ⟨gb583, 1, none⟩) (Kd.Q_far (p := ⟨gb583, 0, none⟩) (Kd.Q_types HO580.out BK583.out (by decide)) (fun _ hk => hk.2) (.slice Ao21 t578.length co21)) (fun _ hk => hk.2) (.int .i64 t581)) (fun _ h_ => h_.1)))) k_ hk_), (Kd.freshB (g := gb576) (o := .cells #[.slice Ao8 t568.length co8, .int .i64 t571] 27 (0, 0)) (by refine eK ?_; refine blk_far ?_ NB576_583.out _; refine eK ?_; refine blk_far ?_ NB576_583.out _; refine eK ?_; exact BK576.out) k_ hk_), (Kd.freshB (g := gb583) (o := .cells #[.slice Ao21 t578.length co21, .int .i64 t581] 27 (0, 0)) (by refine eK ?_; refine blk_put (cs := #[.slice Ao21 t578.length co21, .int .i64 0]) ?_ 1 _ rfl; refine eK ?_; refine blk_put (cs := #[.slice none 0 0, .int .i64 0]) ?_ 0 _ rfl; refine eK ?_; exact BK583.out) k_ hk_)⟩)) (below_size (eH HB))); have n4_ := g' (blk_below (g := gb576) (o := .cells #[.slice Ao8 t568.length co8, .int .i64 t571] 27 (0, 0)) (by refine eK ?_; refine blk_far ?_ NB576_583.out _; refine eK ?_; refine blk_far ?_ NB576_583.out _; refine eK ?_; exact BK576.out) hb); have n5_ := g' (blk_below (g := gb583) (o := .cells #[.slice Ao21 t578.length co21, .int .i64 t581] 27 (0, 0)) (by refine eK ?_; refine blk_put (cs := #[.slice Ao21 t578.length co21, .int .i64 0]) ?_ 1 _ rfl; refine eK ?_; refine blk_put (cs := #[.slice none 0 0, .int .i64 0]) ?_ 0 _ rfl; refine eK ?_; exact BK583.out) hb); have n6_ := g' (below_step (eH HB) hb); clear HO_8; clear HO_577000; clear HO580; clear BK576; clear BK583; clear HB; have HO_8 := n0_; have HO_577000 := n1_; have HO580 := n2_; have HO586 := n3_; have BK576 := n4_; have BK583 := n5_; have HB := n6_; clear n0_ n1_ n2_ n3_ n4_ n5_ n6_; (try clear hb); (try clear hb2); (try clear hk); (try clear hi); (try clear ho0)))
    (try simp only [Act.put, List.setIfInBounds_toArray, List.set_cons_zero, List.set_cons_succ])
    go_cut [68] (fun v68 wc => ∃ (kq : Nat) (x68_16 : Bool), v68 = .bool x68_16 ∧ Aside0 (fanlightlaw06_WalDrops.j1 kq a2 t572 t584 x68_16 = some r) ∧ Aside0 (kq ≤ kj4) ∧ Aside0 (Kd.N k57 57 wc w.heap.size (fun k_ => some k_ ≠ (v585 : Value).ownBlock ∧ some k_ ≠ ((.slice Ao8 t568.length co8) : Value).ownBlock ∧ some k_ ≠ ((.slice Ao21 t578.length co21) : Value).ownBlock ∧ k_ ≠ gb576 ∧ k_ ≠ gb583) v573 t572) ∧ Aside0 (Kd.N k60 60 wc w.heap.size (fun k_ => some k_ ≠ (v573 : Value).ownBlock ∧ some k_ ≠ ((.slice Ao8 t568.length co8) : Value).ownBlock ∧ some k_ ≠ ((.slice Ao21 t578.length co21) : Value).ownBlock ∧ k_ ≠ gb576 ∧ k_ ≠ gb583) v585 t584) ∧ Aside0 (Kd.N (Kd.slice 5 (Kd.int .u8)) 25 wc w.heap.size (fun k_ => some k_ ≠ (v573 : Value).ownBlock ∧ some k_ ≠ (v585 : Value).ownBlock ∧ some k_ ≠ ((.slice Ao21 t578.length co21) : Value).ownBlock ∧ k_ ≠ gb576 ∧ k_ ≠ gb583) (.slice Ao8 t568.length co8) t568) ∧ Aside0 (Kd.Q (Kd.slice 5 (Kd.int .u8)) 25 wc w.heap.size (fun k_ => some k_ ≠ ((.slice Ao8 t568.length co8) : Value).ownBlock) (.slice Ao21 t578.length co21) t578) ∧ Aside0 (wc.heap[gb576]? = some (.cells #[(.slice Ao8 t568.length co8), .int .i64 t571] 27 (0, 0))) ∧ Aside0 (wc.heap[gb583]? = some (.cells #[(.slice Ao21 t578.length co21), .int .i64 t581] 27 (0, 0))) ∧ Aside0 (Below w.heap.size w wc))
    case first =>
     have H := HC17.out
     clear HC17
     replace H := Option.bind_eq_some_iff.mp H
     obtain ⟨t588, A250, H⟩ := H
     (try dsimp only at H)
     have A25 := g' A250
     clear A250
     replace H := Option.bind_eq_some_iff.mp H
     obtain ⟨t589, A260, H⟩ := H
     (try dsimp only at H)
     have A26 := g' A260
     clear A260
     by_cases c27 : (wrap64 (t588 + t589)) = 0
     ·
      rw [if_pos c27] at H
      have c27b0 : ((wrap64 (t588 + t589)) == 0) = true := beq_iff_eq.mpr c27
      have c27b1 : ((wrap64 (t588 + t589)) != 0) = false := bne_eq_false_iff_eq.mpr c27
      clear c27
      (first | rw [c27b0] | (simp only [i64_w, i32_w]; rw [c27b0]) | rw [c27b1] | skip)
      by_cases c28 : t581 = t571
      ·
       rw [if_pos c28] at H
       have c28b0 : (t581 == t571) = true := beq_iff_eq.mpr c28
       have c28b1 : (t581 != t571) = false := bne_eq_false_iff_eq.mpr c28
       clear c28
       by_cases c29 : (t584.length : Int) > (t572.length : Int)
       ·
        rw [if_pos c29] at H
        have c29b0 : decide ((t572.length : Int) < (t584.length : Int)) = true := decide_eq_true c29
        have c29b1 : decide (t572.length < t584.length) = true := decide_eq_true (Int.ofNat_lt.mp c29)
        clear c29
        have H' := g' H
        clear H
        go_wp2_with (first | ((with_reducible refine gate_callee (f := 14) rfl ?_); refine goesL_ (some 41) rfl rfl Try.func14 (by kernel_rfl) rfl #[.int .i64 t582] rfl (by (try simp only [b', c', d']); first | done | rfl | (simp only [e', f']; rfl)) ?_; (with_reducible refine (fanlightlaw06_num.calls t582 t588 _ A25.out).mono ?_); rintro e w' ⟨rfl, ⟨nd, rfl⟩⟩; refine ⟨_, rfl, ?_⟩) | ((with_reducible refine gate_callee (f := 14) rfl ?_); refine goesL_ (some 43) rfl rfl Try.func14 (by kernel_rfl) rfl #[.int .i64 t587] rfl (by (try simp only [b', c', d']); first | done | rfl | (simp only [e', f']; rfl)) ?_; (with_reducible refine (fanlightlaw06_num.calls t587 t589 _ A26.out).mono ?_); rintro e w' ⟨rfl, ⟨nd, rfl⟩⟩; refine ⟨_, rfl, ?_⟩; have hnb30 := NB583_576.out; have hnc30 := NB576_583.out; have hcz31_0 : w24.cell? ⟨gb583, 0, none⟩ = some (.slice Ao21 t578.length co21) := (blk_cell BK583.out 0).trans rfl; have hcz31_1 : w24.cell? ⟨gb583, 1, none⟩ = some (.int .i64 t581) := (blk_cell BK583.out 1).trans rfl; have hfz31_0 := blk_frozen BK583.out 0; have hfz31_1 := blk_frozen BK583.out 1; have hcz32_0 : w24.cell? ⟨gb576, 0, none⟩ = some (.slice Ao8 t568.length co8) := (blk_cell BK576.out 0).trans rfl; have hcz32_1 : w24.cell? ⟨gb576, 1, none⟩ = some (.int .i64 t571) := (blk_cell BK576.out 1).trans rfl; have hfz32_0 := blk_frozen BK576.out 0; have hfz32_1 := blk_frozen BK576.out 1; obtain ⟨Ao33, co33, eo33⟩ := Kd.N_slice HO586.out; subst eo33; obtain ⟨Ao34, co34, eo34⟩ := Kd.N_slice HO_8.out; subst eo34))
        go_meet
        case rel => exact ⟨_, (true), (by first | rfl | (simp; done) | (simp [*]; done)), H', ⟨by have := HJ4.out; first | omega | exact Nat.le_refl _⟩, ⟨by (with_reducible repeat (first | apply Kd.N_alloc | apply Kd.N_drewN | apply Kd.N_drew)); exact a' HO_8.out (fun _ hk => ⟨hk.2, ⟨hk.1.1.1.1, ⟨hk.1.1.2, ⟨hk.1.1.1.2, hk.1.2⟩⟩⟩⟩)⟩, ⟨Kd.eN HO586⟩, ⟨by (with_reducible repeat (first | apply Kd.N_alloc | apply Kd.N_drewN | apply Kd.N_drew)); exact a' HO_577000.out (fun _ hk => ⟨hk.1.1.1.1, ⟨hk.2, ⟨hk.1.1.2, ⟨hk.1.1.1.2, hk.1.2⟩⟩⟩⟩)⟩, ⟨by (with_reducible repeat (first | apply Kd.Q_alloc | apply Kd.Q_drewN | apply Kd.Q_drew)); exact Kd.Q_mono HO580.out (fun _ hk => hk.2)⟩, ⟨eB BK576⟩, ⟨eB BK583⟩, ⟨eH HB⟩⟩
       ·
        rw [if_neg c29] at H
        have c29b0 : decide ((t572.length : Int) < (t584.length : Int)) = false := decide_eq_false c29
        have c29b1 : decide (t572.length < t584.length) = false := decide_eq_false (fun h => c29 (Int.ofNat_lt.mpr h))
        clear c29
        have H' := g' H
        clear H
        go_wp2_with (first | ((with_reducible refine gate_callee (f := 14) rfl ?_); refine goesL_ (some 41) rfl rfl Try.func14 (by kernel_rfl) rfl #[.int .i64 t582] rfl (by (try simp only [b', c', d']); first | done | rfl | (simp only [e', f']; rfl)) ?_; (with_reducible refine (fanlightlaw06_num.calls t582 t588 _ A25.out).mono ?_); rintro e w' ⟨rfl, ⟨nd, rfl⟩⟩; refine ⟨_, rfl, ?_⟩) | ((with_reducible refine gate_callee (f := 14) rfl ?_); refine goesL_ (some 43) rfl rfl Try.func14 (by kernel_rfl) rfl #[.int .i64 t587] rfl (by (try simp only [b', c', d']); first | done | rfl | (simp only [e', f']; rfl)) ?_; (with_reducible refine (fanlightlaw06_num.calls t587 t589 _ A26.out).mono ?_); rintro e w' ⟨rfl, ⟨nd, rfl⟩⟩; refine ⟨_, rfl, ?_⟩; have hnb35 := NB583_576.out; have hnc35 := NB576_583.out; have hcz36_0 : w24.cell? ⟨gb583, 0, none⟩ = some (.slice Ao21 t578.length co21) := (blk_cell BK583.out 0).trans rfl; have hcz36_1 : w24.cell? ⟨gb583, 1, none⟩ = some (.int .i64 t581) := (blk_cell BK583.out 1).trans rfl; have hfz36_0 := blk_frozen BK583.out 0; have hfz36_1 := blk_frozen BK583.out 1; have hcz37_0 : w24.cell? ⟨gb576, 0, none⟩ = some (.slice Ao8 t568.length co8) := (blk_cell BK576.out 0).trans rfl; have hcz37_1 : w24.cell? ⟨gb576, 1, none⟩ = some (.int .i64 t571) := (blk_cell BK576.out 1).trans rfl; have hfz37_0 := blk_frozen BK576.out 0; have hfz37_1 := blk_frozen BK576.out 1; obtain ⟨Ao38, co38, eo38⟩ := Kd.N_slice HO586.out; subst eo38; obtain ⟨Ao39, co39, eo39⟩ := Kd.N_slice HO_8.out; subst eo39))
        go_meet
        case rel => exact ⟨_, (decide ((t578.length : Int) > (t568.length : Int))), (by first | rfl | (simp; done) | (simp [*]; done)), H', ⟨by have := HJ4.out; first | omega | exact Nat.le_refl _⟩, ⟨by (with_reducible repeat (first | apply Kd.N_alloc | apply Kd.N_drewN | apply Kd.N_drew)); exact a' HO_8.out (fun _ hk => ⟨hk.2, ⟨hk.1.1.1.1, ⟨hk.1.1.2, ⟨hk.1.1.1.2, hk.1.2⟩⟩⟩⟩)⟩, ⟨Kd.eN HO586⟩, ⟨by (with_reducible repeat (first | apply Kd.N_alloc | apply Kd.N_drewN | apply Kd.N_drew)); exact a' HO_577000.out (fun _ hk => ⟨hk.1.1.1.1, ⟨hk.2, ⟨hk.1.1.2, ⟨hk.1.1.1.2, hk.1.2⟩⟩⟩⟩)⟩, ⟨by (with_reducible repeat (first | apply Kd.Q_alloc | apply Kd.Q_drewN | apply Kd.Q_drew)); exact Kd.Q_mono HO580.out (fun _ hk => hk.2)⟩, ⟨eB BK576⟩, ⟨eB BK583⟩, ⟨eH HB⟩⟩
      ·
       rw [if_neg c28] at H
       have c28b0 : (t581 == t571) = false := beq_eq_false_iff_ne.mpr c28
       have c28b1 : (t581 != t571) = true := bne_iff_ne.mpr c28
       have H' := g' H
       clear H
       go_wp2_with (first | ((with_reducible refine gate_callee (f := 14) rfl ?_); refine goesL_ (some 41) rfl rfl Try.func14 (by kernel_rfl) rfl #[.int .i64 t582] rfl (by (try simp only [b', c', d']); first | done | rfl | (simp only [e', f']; rfl)) ?_; (with_reducible refine (fanlightlaw06_num.calls t582 t588 _ A25.out).mono ?_); rintro e w' ⟨rfl, ⟨nd, rfl⟩⟩; refine ⟨_, rfl, ?_⟩) | ((with_reducible refine gate_callee (f := 14) rfl ?_); refine goesL_ (some 43) rfl rfl Try.func14 (by kernel_rfl) rfl #[.int .i64 t587] rfl (by (try simp only [b', c', d']); first | done | rfl | (simp only [e', f']; rfl)) ?_; (with_reducible refine (fanlightlaw06_num.calls t587 t589 _ A26.out).mono ?_); rintro e w' ⟨rfl, ⟨nd, rfl⟩⟩; refine ⟨_, rfl, ?_⟩; have hnb40 := NB583_576.out; have hnc40 := NB576_583.out; have hcz41_0 : w24.cell? ⟨gb583, 0, none⟩ = some (.slice Ao21 t578.length co21) := (blk_cell BK583.out 0).trans rfl; have hcz41_1 : w24.cell? ⟨gb583, 1, none⟩ = some (.int .i64 t581) := (blk_cell BK583.out 1).trans rfl; have hfz41_0 := blk_frozen BK583.out 0; have hfz41_1 := blk_frozen BK583.out 1; have hcz42_0 : w24.cell? ⟨gb576, 0, none⟩ = some (.slice Ao8 t568.length co8) := (blk_cell BK576.out 0).trans rfl; have hcz42_1 : w24.cell? ⟨gb576, 1, none⟩ = some (.int .i64 t571) := (blk_cell BK576.out 1).trans rfl; have hfz42_0 := blk_frozen BK576.out 0; have hfz42_1 := blk_frozen BK576.out 1))
       go_meet
       case rel => exact ⟨_, (true), (by first | rfl | (simp; done) | (simp [*]; done)), H', ⟨by have := HJ4.out; first | omega | exact Nat.le_refl _⟩, ⟨by (with_reducible repeat (first | apply Kd.N_alloc | apply Kd.N_drewN | apply Kd.N_drew)); exact a' HO_8.out (fun _ hk => ⟨hk.2, ⟨hk.1.1.1.1, ⟨hk.1.1.2, ⟨hk.1.1.1.2, hk.1.2⟩⟩⟩⟩)⟩, ⟨Kd.eN HO586⟩, ⟨by (with_reducible repeat (first | apply Kd.N_alloc | apply Kd.N_drewN | apply Kd.N_drew)); exact a' HO_577000.out (fun _ hk => ⟨hk.1.1.1.1, ⟨hk.2, ⟨hk.1.1.2, ⟨hk.1.1.1.2, hk.1.2⟩⟩⟩⟩)⟩, ⟨by (with_reducible repeat (first | apply Kd.Q_alloc | apply Kd.Q_drewN | apply Kd.Q_drew)); exact Kd.Q_mono HO580.out (fun _ hk => hk.2)⟩, ⟨eB BK576⟩, ⟨eB BK583⟩, ⟨eH HB⟩⟩
     ·
      rw [if_neg c27] at H
      have c27b0 : ((wrap64 (t588 + t589)) == 0) = false := beq_eq_false_iff_ne.mpr c27
      have c27b1 : ((wrap64 (t588 + t589)) != 0) = true := bne_iff_ne.mpr c27
      (first | rw [c27b0] | (simp only [i64_w, i32_w]; rw [c27b0]) | rw [c27b1] | skip)
      have H' := g' H
      clear H
      go_wp2_with (first | ((with_reducible refine gate_callee (f := 14) rfl ?_); refine goesL_ (some 41) rfl rfl Try.func14 (by kernel_rfl) rfl #[.int .i64 t582] rfl (by (try simp only [b', c', d']); first | done | rfl | (simp only [e', f']; rfl)) ?_; (with_reducible refine (fanlightlaw06_num.calls t582 t588 _ A25.out).mono ?_); rintro e w' ⟨rfl, ⟨nd, rfl⟩⟩; refine ⟨_, rfl, ?_⟩) | ((with_reducible refine gate_callee (f := 14) rfl ?_); refine goesL_ (some 43) rfl rfl Try.func14 (by kernel_rfl) rfl #[.int .i64 t587] rfl (by (try simp only [b', c', d']); first | done | rfl | (simp only [e', f']; rfl)) ?_; (with_reducible refine (fanlightlaw06_num.calls t587 t589 _ A26.out).mono ?_); rintro e w' ⟨rfl, ⟨nd, rfl⟩⟩; refine ⟨_, rfl, ?_⟩))
      go_meet
      case rel => exact ⟨_, (true), (by first | rfl | (simp; done) | (simp [*]; done)), H', ⟨by have := HJ4.out; first | omega | exact Nat.le_refl _⟩, ⟨by (with_reducible repeat (first | apply Kd.N_alloc | apply Kd.N_drewN | apply Kd.N_drew)); exact a' HO_8.out (fun _ hk => ⟨hk.2, ⟨hk.1.1.1.1, ⟨hk.1.1.2, ⟨hk.1.1.1.2, hk.1.2⟩⟩⟩⟩)⟩, ⟨Kd.eN HO586⟩, ⟨by (with_reducible repeat (first | apply Kd.N_alloc | apply Kd.N_drewN | apply Kd.N_drew)); exact a' HO_577000.out (fun _ hk => ⟨hk.1.1.1.1, ⟨hk.2, ⟨hk.1.1.2, ⟨hk.1.1.1.2, hk.1.2⟩⟩⟩⟩)⟩, ⟨by (with_reducible repeat (first | apply Kd.Q_alloc | apply Kd.Q_drewN | apply Kd.Q_drew)); exact Kd.Q_mono HO580.out (fun _ hk => hk.2)⟩, ⟨eB BK576⟩, ⟨eB BK583⟩, ⟨eH HB⟩⟩
    case rest =>
     clear HC17
     try clear c1
     try clear c2
     try clear p2
     try clear c3
     try clear c4
     try clear c5
     try clear p6
     try clear c8
     try clear c11
     try clear c14
     try clear c16
     try clear c18
     try clear c22
     try clear c24
     try clear c27
     try clear c27b0
     try clear c27b1
     try clear c28
     try clear c28b0
     try clear c28b1
     try clear c29
     try clear c29b0
     try clear c29b1
     try clear c30
     try clear c35
     try clear c40
     try clear hcz18_0
     try clear hcz18_1
     try clear hcz23_0
     try clear hcz23_1
     try clear hcz31_0
     try clear hcz31_1
     try clear hcz32_0
     try clear hcz32_1
     try clear hcz36_0
     try clear hcz36_1
     try clear hcz37_0
     try clear hcz37_1
     try clear hcz41_0
     try clear hcz41_1
     try clear hcz42_0
     try clear hcz42_1
     try clear hcz9_0
     try clear hcz9_1
     try clear hfz18_0
     try clear hfz18_1
     try clear hfz23_0
     try clear hfz23_1
     try clear hfz31_0
     try clear hfz31_1
     try clear hfz32_0
     try clear hfz32_1
     try clear hfz36_0
     try clear hfz36_1
     try clear hfz37_0
     try clear hfz37_1
     try clear hfz41_0
     try clear hfz41_1
     try clear hfz42_0
     try clear hfz42_1
     try clear hfz9_0
     try clear hfz9_1
     try clear p2
     obtain ⟨kq, x68_16, rfl, HA, HJ16, HO_8, HO_12, HO_577000, HO_584000, BK576, BK583, HB⟩ := hcut
     cases kq with
     | zero => exact absurd HA.out (by simp [fanlightlaw06_WalDrops.j1])
     | succ kj16 =>
      have H := HA.out
      clear HA
      simp only [fanlightlaw06_WalDrops.j1] at H
      by_cases c43 : x68_16 = true
      ·
       subst c43
       have H1 : (some false) = some r := by rw [if_pos rfl] at H; exact H
       clear H
       have H := H1
       clear H1
       obtain rfl := Option.some.inj H
       cases hT
      ·
       replace c43 := Bool.eq_false_iff.mpr c43
       subst c43
       have H1 : (if 0 ≤ (wrap64 ((t572.length : Int) - (t584.length : Int))) then (if (wrap64 ((t572.length : Int) - (t584.length : Int))) ≤ (t572.length : Int) then (fanlightlaw06_WalDrops.l0 kj16 a2 t572 t584 (t572.take ((wrap64 ((t572.length : Int) - (t584.length : Int))) : Int).toNat) 0) else (none)) else (none)) = some r := by rw [if_neg (show ¬ (false = true) by decide)] at H; exact H
       clear H
       have H := H1
       clear H1
       obtain ⟨ji44, hji44⟩ : ∃ j_ : Int, (wrap64 ((t572.length : Int) - (t584.length : Int))) = j_ := ⟨_, rfl⟩
       replace H : (if 0 ≤ (ji44) then (if (ji44) ≤ (t572.length : Int) then (fanlightlaw06_WalDrops.l0 kj16 a2 t572 t584 (t572.take ((ji44) : Int).toNat) 0) else (none)) else (none)) = some r := by first | (rw [hji44] at H; exact H) | (simp only [hji44] at H ⊢; exact H)
       have hji44w : (IntKind.i64.wrap ((t572.length : Int) - (t584.length : Int))) = ji44 := (i64_w _).trans hji44
       by_cases c45 : 0 ≤ (ji44)
       ·
        rw [if_pos c45] at H
        have c45b0 := eq_true c45
        have c45b1 : decide (0 ≤ (ji44)) = true := decide_eq_true c45
        clear c45
        by_cases c46 : (ji44) ≤ (t572.length : Int)
        ·
         rw [if_pos c46] at H
         have c46b0 := eq_true c46
         have c46b1 : decide ((ji44) ≤ (t572.length : Int)) = true := decide_eq_true c46
         clear c46
         obtain ⟨y590, hy590⟩ : ∃ y_ : List (S57), y_ = (t572.take ((ji44) : Int).toNat) := ⟨_, rfl⟩
         replace H : (fanlightlaw06_WalDrops.l0 kj16 a2 t572 t584 y590 0) = some r := by first | (rw [hy590]; with_reducible exact H) | (have H2_ := (Option.bind_some _ _).symm.trans H; rw [hy590]; with_reducible exact H2_) | (have H2_ := (Option.bind_some _ _).symm.trans H; with_reducible exact H2_) | with_reducible exact H | (rw [hy590]; exact H) | exact H
         have Ny590 := g' hy590
         clear hy590
         have H' := g' H
         clear H
         obtain ⟨Ao47, co47, eo47⟩ := Kd.N_slice HO_8.out
         subst eo47
         obtain ⟨Ao48, co48, eo48⟩ := Kd.N_slice HO_12.out
         subst eo48
         have q49 : ((ji44) : Int) ≤ ((t572.length : Int) : Int) := oD
         obtain ⟨i049, hi049, _, hsz49, _⟩ := info_parts info57
         have hroom49 : t572.length ≤ co47 := (Kd.N_reads' HO_8.out).2.1
         have hC49 : Kd.F k57 _ _ Ao47 t572.length t572 := (Kd.V_at (base := w.heap.size) (Kd.N_V HO_8.out)).2.2
         have hcut49 := cut_to (P := Try.prog) 42 57 .i64 Try.underlying42 hi049 Ao47 t572.length co47 (ji44) (oD) q49 hroom49
         have hr49 := Kd.F_take (m := ((ji44) : Int).toNat) hC49 (by omega)
         have hy49 : y590.length = ((ji44) : Int).toNat := (by rw [Ny590.out, f']; omega)
         rw [← Ny590.out] at hr49
         rw [← hy49] at hcut49
         have HO594 := g' (show Kd.V k57 57 _ w.heap.size _ (.slice Ao47 y590.length co47) y590 from Kd.V_mk (by omega) hr49)
         have HC594 := g' (show y590.length ≤ co47 from by omega)
         clear hr49 hC49 hroom49 hi049 hsz49
         have KY49 := g' hy49
         clear hy49
         replace q49 := eq_true q49
         go_wp2
         go_loopg [15] kj16 (fun kq v15 w' => ∃ (x15_3 : Int), v15 = .int .i64 x15_3 ∧ Aside0 (fanlightlaw06_WalDrops.l0 kq a2 t572 t584 y590 x15_3 = some r) ∧ Aside0 (kq ≤ kj16) ∧ Aside0 (Kd.N k57 57 w' w.heap.size (fun k_ => some k_ ≠ ((.slice Ao48 t584.length co48) : Value).ownBlock ∧ some k_ ≠ ((.slice Ao8 t568.length co8) : Value).ownBlock ∧ some k_ ≠ ((.slice Ao21 t578.length co21) : Value).ownBlock ∧ k_ ≠ gb576 ∧ k_ ≠ gb583) (.slice Ao47 t572.length co47) t572) ∧ Aside0 (Kd.N k60 60 w' w.heap.size (fun k_ => some k_ ≠ ((.slice Ao47 t572.length co47) : Value).ownBlock ∧ some k_ ≠ ((.slice Ao8 t568.length co8) : Value).ownBlock ∧ some k_ ≠ ((.slice Ao21 t578.length co21) : Value).ownBlock ∧ k_ ≠ gb576 ∧ k_ ≠ gb583) (.slice Ao48 t584.length co48) t584) ∧ Aside0 (Kd.V k57 57 w' w.heap.size (fun k_ => some k_ ≠ ((.slice Ao48 t584.length co48) : Value).ownBlock ∧ some k_ ≠ ((.slice Ao8 t568.length co8) : Value).ownBlock ∧ some k_ ≠ ((.slice Ao21 t578.length co21) : Value).ownBlock ∧ k_ ≠ gb576 ∧ k_ ≠ gb583) (.slice Ao47 y590.length co47) y590) ∧ Aside0 (Kd.N (Kd.slice 5 (Kd.int .u8)) 25 w' w.heap.size (fun k_ => some k_ ≠ ((.slice Ao47 t572.length co47) : Value).ownBlock ∧ some k_ ≠ ((.slice Ao48 t584.length co48) : Value).ownBlock ∧ some k_ ≠ ((.slice Ao21 t578.length co21) : Value).ownBlock ∧ k_ ≠ gb576 ∧ k_ ≠ gb583) (.slice Ao8 t568.length co8) t568) ∧ Aside0 (Kd.Q (Kd.slice 5 (Kd.int .u8)) 25 w' w.heap.size (fun k_ => some k_ ≠ ((.slice Ao8 t568.length co8) : Value).ownBlock) (.slice Ao21 t578.length co21) t578) ∧ Aside0 (w'.heap[gb576]? = some (.cells #[(.slice Ao8 t568.length co8), .int .i64 t571] 27 (0, 0))) ∧ Aside0 (w'.heap[gb583]? = some (.cells #[(.slice Ao21 t578.length co21), .int .i64 t581] 27 (0, 0))) ∧ Aside0 (Below w.heap.size w w'))
         case atStart => exact ⟨(0), (by first | rfl | (simp; done) | (simp [*]; done)), H', ⟨Nat.le_refl _⟩, ⟨Kd.eN HO_8⟩, ⟨Kd.eN HO_12⟩, ⟨Kd.eV HO594⟩, ⟨Kd.eN HO_577000⟩, ⟨Kd.eQ HO_584000⟩, ⟨eB BK576⟩, ⟨eB BK583⟩, ⟨eH HB⟩⟩
         case round =>
          clear H'
          try clear c1
          try clear c2
          try clear p2
          try clear c3
          try clear c4
          try clear q4
          try clear c5
          try clear p6
          try clear c8
          try clear c11
          try clear c14
          try clear c16
          try clear c18
          try clear c22
          try clear c24
          try clear c27
          try clear c27b0
          try clear c27b1
          try clear c28
          try clear c28b0
          try clear c28b1
          try clear c29
          try clear c29b0
          try clear c29b1
          try clear c30
          try clear c35
          try clear c40
          try clear c43
          try clear c45
          try clear c45b0
          try clear c45b1
          try clear c46
          try clear c46b0
          try clear c46b1
          try clear q49
          try clear hcz18_0
          try clear hcz18_1
          try clear hcz23_0
          try clear hcz23_1
          try clear hcz31_0
          try clear hcz31_1
          try clear hcz32_0
          try clear hcz32_1
          try clear hcz36_0
          try clear hcz36_1
          try clear hcz37_0
          try clear hcz37_1
          try clear hcz41_0
          try clear hcz41_1
          try clear hcz42_0
          try clear hcz42_1
          try clear hcz9_0
          try clear hcz9_1
          try clear hfz18_0
          try clear hfz18_1
          try clear hfz23_0
          try clear hfz23_1
          try clear hfz31_0
          try clear hfz31_1
          try clear hfz32_0
          try clear hfz32_1
          try clear hfz36_0
          try clear hfz36_1
          try clear hfz37_0
          try clear hfz37_1
          try clear hfz41_0
          try clear hfz41_1
          try clear hfz42_0
          try clear hfz42_1
          try clear hfz9_0
          try clear hfz9_1
          try clear p2
          try clear p6
          try clear q49
          obtain ⟨x15_3, rfl, HA, HK3, HO_8, HO_12, HO_14, HO_577000, HO_584000, BK576, BK583, HB⟩ := hrel
          cases gk with
          | zero => exact absurd HA.out (by simp [fanlightlaw06_WalDrops.l0])
          | succ k3 =>
           have H := HA.out
           clear HA
           simp only [fanlightlaw06_WalDrops.l0] at H
           by_cases c50 : x15_3 < (y590.length : Int)
           ·
            rw [if_pos c50] at H
            have c50b0 : decide (x15_3 < (y590.length : Int)) = true := decide_eq_true c50
            clear c50
            by_cases c51 : 0 ≤ x15_3
            ·
             rw [if_pos c51] at H
             have c51b0 : decide (0 ≤ x15_3) = true := decide_eq_true c51
             clear c51
             by_cases c52 : ((rd_T57 y590 x15_3).f0) > a2
             ·
              rw [if_pos c52] at H
              have c52b0 : decide (a2 < ((rd_T57 y590 x15_3).f0)) = true := decide_eq_true c52
              clear c52
              obtain rfl := Option.some.inj H
              cases hT
             ·
              rw [if_neg c52] at H
              have c52b0 : decide (a2 < ((rd_T57 y590 x15_3).f0)) = false := decide_eq_false c52
              clear c52
              have H' := g' H
              clear H
              have p595 : 0 ≤ (x15_3 : Int) := oD
              have q595 : x15_3 < (y590.length : Int) := oD
              obtain ⟨ad595, A595_1, c595_1, e595, hx595_0, hx595_1, hl595_1, hi595_1⟩ := at_T57 (Kd.V_reads' HO_14.out).2.2 x15_3 p595 q595
              cases e595
              obtain ⟨ce595, hce595, hMe595, hcc595⟩ := Kd.V_get HO_14.out z57 x15_3 p595 (by first | exact q595 | exact oD | (have e_ := (Kd.V_reads' HO_14.out).1; omega))
              obtain ⟨ua595_1, uc595_1, rfl, ul595_1, ge595_1⟩ := k57_openF hMe595
              have hv595_1 := hcc595 1 _ rfl
              rw [add_field _ _ 1 (by omega)] at hv595_1
              replace hv595_1 := Option.some.inj (hv595_1.symm.trans hx595_1)
              injection hv595_1 with hva_ hvn_ hvc_
              rw [hva_] at ge595_1
              rw [hvc_] at ul595_1
              have HL595_1 := g' (show Kd.V (Kd.int .u8) 5 _ w.heap.size _ _ ((rd_T57 y590 x15_3).f1) from Kd.V_mk ul595_1 ge595_1)
              clear hva_ hvn_ hvc_ ge595_1 ul595_1
              clear hcc595 hce595
              have HR595_1 := g' hi595_1
              have HC595_1 := g' hl595_1
              clear hi595_1 hl595_1
              replace p595 := eq_true p595
              replace q595 := eq_true q595
              go_wp2
              go_roundg k3
              case measure => have := HJ4.out; have := HJ16.out; have := HK3.out; omega
              case rel => exact ⟨(wrap64 (x15_3 + 1)), (by first | rfl | (simp; done) | (simp [*]; done)), H', ⟨by have := HJ4.out; have := HJ16.out; have := HK3.out; omega⟩, ⟨Kd.eN HO_8⟩, ⟨Kd.eN HO_12⟩, ⟨Kd.eV HO_14⟩, ⟨Kd.eN HO_577000⟩, ⟨Kd.eQ HO_584000⟩, ⟨eB BK576⟩, ⟨eB BK583⟩, ⟨eH HB⟩⟩
            ·
             rw [if_neg c51] at H
             exact absurd H (by simp)
           ·
            rw [if_neg c50] at H
            have c50b0 : decide (x15_3 < (y590.length : Int)) = false := decide_eq_false c50
            clear c50
            by_cases c53 : 0 ≤ (y590.length : Int)
            ·
             rw [if_pos c53] at H
             have c53b0 := eq_true c53
             have c53b1 : decide (0 ≤ (y590.length : Int)) = true := decide_eq_true c53
             clear c53
             by_cases c54 : (y590.length : Int) ≤ (t572.length : Int)
             ·
              rw [if_pos c54] at H
              have c54b0 := eq_true c54
              have c54b1 : decide ((y590.length : Int) ≤ (t572.length : Int)) = true := decide_eq_true c54
              clear c54
              obtain ⟨y596, hy596⟩ : ∃ y_ : List (S57), y_ = (t572.drop ((y590.length : Int) : Int).toNat) := ⟨_, rfl⟩
              replace H : ((fanlightlaw06_same.f k3 t584 y596).bind fun t601 => (some t601)) = some r := by first | (rw [hy596]; with_reducible exact H) | (have H2_ := (Option.bind_some _ _).symm.trans H; rw [hy596]; with_reducible exact H2_) | (have H2_ := (Option.bind_some _ _).symm.trans H; with_reducible exact H2_) | with_reducible exact H | (rw [hy596]; exact H) | exact H
              have Ny596 := g' hy596
              clear hy596
              replace H := Option.bind_eq_some_iff.mp H
              obtain ⟨t601, A550, H⟩ := H
              (try dsimp only at H)
              have A55 := g' A550
              clear A550
              obtain rfl := Option.some.inj H
              have q56 : ((y590.length : Int) : Int) ≤ ((t572.length : Int) : Int) := oD
              obtain ⟨i056, hi056, _, hsz56, _⟩ := info_parts info57
              have hroom56 : t572.length ≤ co47 := (Kd.N_reads' HO_8.out).2.1
              have hC56 : Kd.F k57 _ _ Ao47 t572.length t572 := (Kd.V_at (base := w.heap.size) (Kd.N_V HO_8.out)).2.2
              have q056 : (0 : Int) ≤ ((y590.length : Int) : Int) := oD
              have hcut56 := cut_from (P := Try.prog) 42 57 .i64 Try.underlying42 hi056 2 hsz56 Ao47 t572.length co47 (y590.length : Int) q056 q56
              have hr56 := Kd.F_cut (m := ((y590.length : Int) : Int).toNat) (c := co47) hC56 (by omega) hroom56
              obtain ⟨A56, hA56⟩ : ∃ A1, A1 = (if co47 = ((y590.length : Int) : Int).toNat then Ao47 else (Ao47 : Option Addr).map (·.add (((y590.length : Int) : Int).toNat * 2))) := ⟨_, rfl⟩
              obtain ⟨c56, hc56⟩ : ∃ c1, c1 = co47 - ((y590.length : Int) : Int).toNat := ⟨_, rfl⟩
              have hy56 : y596.length = t572.length - ((y590.length : Int) : Int).toNat := (by rw [Ny596.out, e'] <;> omega)
              rw [show (t572).drop ((y590.length : Int) : Int).toNat = y596 from Ny596.out.symm] at hr56
              replace hr56 : Kd.F k57 _ _ A56 y596.length y596 := (by rw [hA56]; exact hr56)
              rw [← hy56, ← hA56, ← hc56] at hcut56
              have HO600 := g' (show Kd.V k57 57 _ w.heap.size _ (.slice A56 y596.length c56) y596 from Kd.V_mk (by rw [hy56, hc56]; exact Nat.sub_le_sub_right hroom56 _) hr56)
              have HC600 := g' (show y596.length ≤ c56 from by rw [hy56, hc56]; exact Nat.sub_le_sub_right hroom56 _)
              clear hr56 hC56 hroom56 hi056 hsz56 hc56
              have KY56 := g' hy56
              have KA56 := g' hA56
              clear hy56 hA56
              replace q56 := eq_true q56
              go_wp2_with (first | ((with_reducible refine gate_callee (f := 20) rfl ?_); refine goesL_ (some 94) rfl rfl Try.func20 (by kernel_rfl) rfl #[.slice Ao48 t584.length co48, .slice A56 y596.length c56] rfl (by (try simp only [b', c', d']); first | done | rfl | (simp only [e', f']; rfl)) ?_; (with_reducible refine (fanlightlaw06_same.calls k3 _ _ t584 _ _ y596 t601 _ ?side1 ?side2 ?side3 ?side4 A55.out).mono ?_); (case side1 => exact Kd.kC (Kd.N_reads' HO_12.out).2.2); (case side2 => exact (Kd.N_reads' HO_12.out).2.1); (case side3 => exact Kd.kC (Kd.V_reads' HO600.out).2.2); (case side4 => exact (Kd.V_reads' HO600.out).2.1); rintro e w' ⟨rfl, ⟨nd, rfl⟩⟩; refine ⟨_, rfl, ?_⟩))
              go_ret
              exact ⟨by first | rfl | (simp [errW_none, errW_some] <;> rfl) | (simp only [← hji44]; first | rfl | (simp [errW_none, errW_some] <;> rfl)) | (simp [*, errW_none, errW_some] <;> rfl), eH HB⟩
             ·
              rw [if_neg c54] at H
              exact absurd H (by simp)
            ·
             rw [if_neg c53] at H
             exact absurd H (by simp)
        ·
         rw [if_neg c46] at H
         exact absurd H (by simp)
       ·
        rw [if_neg c45] at H
        exact absurd H (by simp)
end Go.Proofs.Ytgmkgobapeencaa.S
