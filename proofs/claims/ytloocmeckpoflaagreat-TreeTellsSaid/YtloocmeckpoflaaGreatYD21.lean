import Derived.Test.YtloocmeckpoflaaGreatYD0
import Derived.Test.YtloocmeckpoflaaGreatYD13
import Derived.Test.YtloocmeckpoflaaGreatYD15
import Derived.Test.YtloocmeckpoflaaGreatYD16
import Derived.Test.YtloocmeckpoflaaGreatYD19
import Derived.Test.YtloocmeckpoflaaGreatYD20
namespace Go.Proofs.YtloocmeckpoflaaGreat.D
open Go.RowKit Go.Proofs.YtloocmeckpoflaaGreatW.PrintWords Go.Proofs.YtloocmeckpoflaaGreatW.PrintLast Go.Proofs.YtloocmeckpoflaaGreatW.PrintMore
attribute [local go_sem] max2_int min2_int max_two min_two max_three min_three max_four min_four   -- for this text's walks alone
set_option linter.unusedVariables false
set_option linter.unusedSimpArgs false
set_option maxRecDepth 100000 in
set_option maxHeartbeats 4000000 in
theorem str_is (W : World) (base p : Nat) (fv : Value) (s : ByteArray) (h : Pr W base p fv s) (h0 : s.size ≠ 0) :
  Calls Tryz.prog 24 #[.pointer (some ⟨p, 0, none⟩)] W fun e w' => e = .returned (.string s) ∧ Below base W w' := by
 obtain ⟨hbp, av, v, hp, ha, hown, hne⟩ := h
 obtain ⟨g, cap, cur, rfl, hbg, hg, hnc, hcm, hcs, htake⟩ : ∃ g cap cur, v = .slice (some ⟨g, 0, none⟩) s.size cap ∧ base ≤ g ∧ W.heap[g]? = some (.cells cur 5 (0, 0)) ∧ s.size ≤ cap ∧ cap ≤ maxLen ∧ cur.size = cap * 1 ∧ cur.toList.take (s.size * 1) = Lib.strCells s := by
  rcases hown.2 with ⟨_, hz⟩ | ⟨g, cap, cur, hv, r⟩
  ·
   exact absurd hz h0
  ·
   exact ⟨g, cap, cur, hv, r⟩
 have hsl : s.data.toList.length = s.size := Array.length_toList
 have hSD : (Builtin.unsafeSliceData_ #[51] 92 #[.slice (some ⟨g, 0, none⟩) s.size cap]).run Tryz.prog W.drew = .ok (.pointer (some ⟨g, 0, none⟩)) W.drew :=
  Lib.run_unsafeSliceData_row _ _ _ _ _ _ (by omega)
 have hUS : (Builtin.unsafeString_ #[92, 3] 9 #[.pointer (some ⟨g, 0, none⟩), .int .i64 s.size]).run Tryz.prog W.drew = .ok (.string s) (W.drew.freeze ⟨g, 0, none⟩ s.size) := by
  have h := Lib.run_unsafeString_row (P := Tryz.prog) W.drew 92 3 9 5 Tryz.underlying92 (by kernel_rfl) g cur.size (by have hg' : W.drew.heap[g]? = some (.cells cur 5 (0, 0)) := hg; simp [World.shape?, hg']) s.data.toList (by
   intro e
   rw [e] at hsl
   exact h0 hsl.symm) (by omega) (by unfold maxLen at hcm; omega) (by
   intro j x hx
   exact hown.cells (g := g) rfl j (.int .u8 x.toNat) (by simp [Lib.strCells, hx]))
  rw [hsl, Array.toArray_toList] at h
  exact h
 have c1 := blk_cell hp 1
 have c1d : W.drew.cell? ⟨p, 1, none⟩ = some (.slice (some ⟨g, 0, none⟩) s.size cap) := c1
 clear hown htake hcs hcm hnc hg hp ha hne
 go_enter Tryz.func24, Tryz.ntmps24
 go_wp2
 go_region
 all_goals (go_wp2; go_ret; exact ⟨rfl, Lib.below_freeze (Below.drew (Below.refl base W)) (p := ⟨g, 0, none⟩) hbg _⟩)
def prS (t : S25) : ByteArray := (prT t).foldl (· ++ ·) ⟨#[]⟩
def tree_Print.f (a0_0 : ByteArray) (a0_1 : ByteArray) (a0_2 : ByteArray) (l0_3 : List S91) (l0_4 : List S25) : Option (ByteArray × Int) :=
 (tree_Check.f a0_0 a0_1 a0_2 l0_3 l0_4).bind fun e => if e = 0 then (if fitT ⟨a0_0, a0_1, a0_2, l0_3, l0_4⟩ = true ∧ (prS ⟨a0_0, a0_1, a0_2, l0_3, l0_4⟩).size ≤ 140737488355328 ∧ (prS ⟨a0_0, a0_1, a0_2, l0_3, l0_4⟩).size ≠ 0 then some (prS ⟨a0_0, a0_1, a0_2, l0_3, l0_4⟩, 0) else none) else some (⟨#[]⟩, e)
theorem pr_new {W : World} {base p g : Nat} (hb : base ≤ p) (hp : W.heap[p]? = some (.cells #[.pointer none, .slice none 0 0, fvOf g] 55 (0, 0))) : Pr W base p (fvOf g) ⟨#[]⟩ :=
 ⟨hb, _, _, hp, Or.inl rfl, ⟨by first | rfl | (simp [Lib.strCells]; rfl), Or.inl ⟨rfl, rfl⟩⟩, by simp [Value.ownBlock]⟩
set_option maxRecDepth 100000 in
set_option maxHeartbeats 4000000 in
theorem print_is (t : S25) (er : Int) (A3 : Option Addr) (c3 : Nat) (A4 : Option Addr) (c4 : Nat) (w : World) (hr3 : Kd.C k91 w A3 t.f3.length t.f3) (hc3 : t.f3.length ≤ c3) (hr4 : Kd.C k25 w A4 t.f4.length t.f4) (hc4 : t.f4.length ≤ c4) (hch : tree_Check.f t.f0 t.f1 t.f2 t.f3 t.f4 = some er)
  (hf : er = 0 → fitT t = true ∧ (prS t).size ≤ 140737488355328 ∧ (prS t).size ≠ 0) :
  Calls Tryz.prog 8 #[.agg #[.string t.f0, .string t.f1, .string t.f2, .slice A3 t.f3.length c3, .slice A4 t.f4.length c4]] w fun e w' => e = .returned (.tuple #[.string (if er = 0 then prS t else ⟨#[]⟩), .int .i64 er]) ∧ Below w.heap.size w w' := by
 obtain ⟨W1, hW1⟩ : ∃ W, w.alloc (.cells #[.string t.f0, .string t.f1, .string t.f2, .slice A3 t.f3.length c3, .slice A4 t.f4.length c4] 25) = W := ⟨_, rfl⟩
 obtain ⟨N, hN⟩ : ∃ N, w.heap.size = N := ⟨_, rfl⟩
 have hb1 : Below w.heap.size w W1 := by rw [← hW1]; exact below_alloc (Below.refl _ _) _
 have hx1 : W1.heap[N]? = some (.cells #[.string t.f0, .string t.f1, .string t.f2, .slice A3 t.f3.length c3, .slice A4 t.f4.length c4] 25 (0, 0)) := by rw [← hW1]; exact blk_newr hN
 have hcall := tree_Check.calls t.f0 t.f1 t.f2 A3 c3 t.f3 A4 c4 t.f4 er W1 (Kd.C_below hr3 hb1) hc3 (Kd.C_below hr4 hb1) hc4 hch
 have HB1 := Aside0.mk hb1
 have HR3 := Aside0.mk hr3
 have HR4 := Aside0.mk hr4
 have HC3 := Aside0.mk hc3
 have HF : Aside0 (er = 0 → fitT t = true ∧ (prS t).size ≤ 140737488355328 ∧ (prS t).size ≠ 0) := ⟨hf⟩
 have HT := Aside0.mk (ptree_is _ t (Nat.lt_succ_self _))
 obtain ⟨n3, hn3⟩ : ∃ n, t.f3.length = n := ⟨_, rfl⟩
 obtain ⟨n4, hn4⟩ : ∃ n, t.f4.length = n := ⟨_, rfl⟩
 have HN3 := Lib.hid hn3
 have HN4 := Lib.hid hn4
 rw [hn3, hn4] at hW1 hx1 hcall HT
 rw [hn3, hn4]
 have HX1 := Aside0.mk hx1
 have HCALL := Aside0.mk hcall
 have x0 : W1.cell? ⟨N, 0, none⟩ = some (.string t.f0) := blk_cell hx1 0
 have x1 : W1.cell? ⟨N, 1, none⟩ = some (.string t.f1) := blk_cell hx1 1
 have x2 : W1.cell? ⟨N, 2, none⟩ = some (.string t.f2) := blk_cell hx1 2
 have x3 : W1.cell? ⟨N, 3, none⟩ = some (.slice A3 n3 c3) := blk_cell hx1 3
 have x4 : W1.cell? ⟨N, 4, none⟩ = some (.slice A4 n4 c4) := blk_cell hx1 4
 clear hb1 hr3 hr4 hc3 hc4 hf hn3 hn4 hx1 hcall hch
 by_cases he : er = 0
 ·
  subst he
  have HG : Aside0 (fitT t = true ∧ (prS t).size ≤ 140737488355328 ∧ (prS t).size ≠ 0) := ⟨HF.out rfl⟩
  clear HF
  rw [if_pos rfl]
  go_enter Tryz.func8, Tryz.ntmps8
  go_wp2_with fail
  refine HCALL.out.mono ?_
  rintro e w2 ⟨rfl, hb2⟩
  have HX2 := Aside0.mk (blk_below HX1.out hb2)
  have HB2 := Aside0.mk (HB1.out.trans (hb2.mono HB1.out.size))
  clear hb2 x0 x1 x2 x3 x4
  obtain ⟨W3, hW3⟩ : ∃ W, w2.alloc (.cells #[.string ⟨#[38]⟩, .string ⟨#[38, 97, 109, 112, 59]⟩, .string ⟨#[60]⟩, .string ⟨#[38, 108, 116, 59]⟩, .string ⟨#[62]⟩, .string ⟨#[38, 103, 116, 59]⟩, .string ⟨#[34]⟩, .string ⟨#[38, 113, 117, 111, 116, 59]⟩] 9) = W := ⟨_, rfl⟩
  obtain ⟨M, hM⟩ : ∃ M, w2.heap.size = M := ⟨_, rfl⟩
  have hal := below_alloc (Below.refl w2.heap.size w2) (.cells #[.string ⟨#[38]⟩, .string ⟨#[38, 97, 109, 112, 59]⟩, .string ⟨#[60]⟩, .string ⟨#[38, 108, 116, 59]⟩, .string ⟨#[62]⟩, .string ⟨#[38, 103, 116, 59]⟩, .string ⟨#[34]⟩, .string ⟨#[38, 113, 117, 111, 116, 59]⟩] 9)
  rw [hW3] at hal
  have hrow : StrRow W3 M rep8 := ⟨_, by rw [← hW3]; exact blk_newr hM, fun i hi => by
   have : i < 8 := hi
   rcases (by omega : i = 0 ∨ i = 1 ∨ i = 2 ∨ i = 3 ∨ i = 4 ∨ i = 5 ∨ i = 6 ∨ i = 7) with rfl | rfl | rfl | rfl | rfl | rfl | rfl | rfl <;> rfl⟩
  have HX3 := Aside0.mk (blk_below HX2.out hal)
  have HB3 := Aside0.mk (HB2.out.trans (hal.mono HB2.out.size))
  have HNR := Aside0.mk (newrep_is (some ⟨M, 0, none⟩) 8 W3 (hrow.C rfl (by decide)))
  clear hal hrow
  go_wp2_with fail
  refine HNR.out.mono ?_
  rintro e w4 ⟨g, OA, oc, rfl, hg, hgb, hgr, hb4⟩
  obtain ⟨ob, rfl, hro, hbo⟩ := StrRow.of hgr (by decide)
  have hrep : Rep w4 g := Or.inl ⟨_, _, _, hgb, hro⟩
  have hB4 := HB3.out.trans (hb4.mono HB3.out.size)
  obtain ⟨W5, hW5⟩ : ∃ W, w4.alloc (.cells #[.pointer none, .slice none 0 0, fvOf g] 55) = W := ⟨_, rfl⟩
  obtain ⟨p, hp⟩ : ∃ p, w4.heap.size = p := ⟨_, rfl⟩
  have hal := below_alloc (Below.refl w4.heap.size w4) (.cells #[.pointer none, .slice none 0 0, fvOf g] 55)
  rw [hW5] at hal
  have hpr : Pr W5 w.heap.size p (fvOf g) ⟨#[]⟩ := pr_new (by rw [← hp]; exact hB4.size) (by rw [← hW5]; exact blk_newr hp)
  have hcT := HT.out p g ⟨#[]⟩ A3 c3 A4 c4 w W5 (hB4.trans (hal.mono hB4.size)) (Nat.le_trans HB3.out.size hg) hpr (hrep.kept (RepKept.of hal)) (by rw [← HN3.out]; exact HR3.out) (by rw [← HN3.out]; exact HC3.out) (by rw [← HN4.out]; exact HR4.out) HG.out.1 HG.out.2.1
  have hx5 := blk_below (blk_below HX3.out hb4) hal
  have z0 : W5.cell? ⟨N, 0, none⟩ = some (.string t.f0) := blk_cell hx5 0
  have z1 : W5.cell? ⟨N, 1, none⟩ = some (.string t.f1) := blk_cell hx5 1
  have z2 : W5.cell? ⟨N, 2, none⟩ = some (.string t.f2) := blk_cell hx5 2
  have z3 : W5.cell? ⟨N, 3, none⟩ = some (.slice A3 n3 c3) := blk_cell hx5 3
  have z4 : W5.cell? ⟨N, 4, none⟩ = some (.slice A4 n4 c4) := blk_cell hx5 4
  have HCT := Aside0.mk hcT
  have HB5 := Aside0.mk (hB4.trans (hal.mono hB4.size))
  unfold fvOf at hW5
  clear hal hpr hcT hx5 hrep hB4 hg hgb hgr hb4 hro hbo
  go_wp2_with fail
  refine HCT.out.mono ?_
  rintro e w6 ⟨⟨v, rfl⟩, hp6, hr6, hb6, hs6⟩
  have HP6 := Aside0.mk hp6
  have HB6 := Aside0.mk (HB5.out.trans hb6)
  clear hp6 hr6 hb6 hs6 z0 z1 z2 z3 z4
  go_wp2_with fail
  refine (str_is w6 w.heap.size p (fvOf g) (prS t) HP6.out HG.out.2.2).mono ?_
  rintro e w7 ⟨rfl, hb7⟩
  have HB7 := Aside0.mk (HB6.out.trans hb7)
  clear hb7
  go_wp2_with fail
  go_ret2
  exact ⟨rfl, HB7.out⟩
 ·
  have d1 : (er != 0) = true := bne_iff_ne.mpr he
  rw [if_neg he]
  go_enter Tryz.func8, Tryz.ntmps8
  go_wp2_with fail
  refine HCALL.out.mono ?_
  rintro e w2 ⟨rfl, hb2⟩
  have HB2 := Aside0.mk (HB1.out.trans (hb2.mono HB1.out.size))
  clear hb2
  go_wp2_with fail
  go_ret2
  exact ⟨rfl, HB2.out⟩
theorem tree_Print.calls (a0_0 : ByteArray) (a0_1 : ByteArray) (a0_2 : ByteArray) (A0_3 : Option Addr) (c0_3 : Nat) (l0_3 : List S91) (A0_4 : Option Addr) (c0_4 : Nat) (l0_4 : List S25) (r1 : ByteArray) (r2 : Int) (w : World) (hr0_3 : Kd.C k91 w A0_3 l0_3.length l0_3) (hc0_3 : l0_3.length ≤ c0_3) (hr0_4 : Kd.C k25 w A0_4 l0_4.length l0_4) (hc0_4 : l0_4.length ≤ c0_4) (h : tree_Print.f a0_0 a0_1 a0_2 l0_3 l0_4 = some (r1, r2)) :
  Calls Tryz.prog 8 #[.agg #[.string a0_0, .string a0_1, .string a0_2, .slice A0_3 l0_3.length c0_3, .slice A0_4 l0_4.length c0_4]] w fun e w' => e = .returned (.tuple #[.string r1, .int .i64 r2]) ∧ Below w.heap.size w w' := by
 unfold tree_Print.f at h
 obtain ⟨e, he, h⟩ := Option.bind_eq_some_iff.mp h
 by_cases hz : e = 0
 ·
  rw [if_pos hz] at h
  split at h
  ·
   rename_i hk
   subst hz
   cases h
   have hs := print_is ⟨a0_0, a0_1, a0_2, l0_3, l0_4⟩ 0 A0_3 c0_3 A0_4 c0_4 w hr0_3 hc0_3 hr0_4 hc0_4 he (fun _ => hk)
   rw [if_pos rfl] at hs
   exact hs
  ·
   cases h
 ·
  rw [if_neg hz] at h
  cases h
  have hs := print_is ⟨a0_0, a0_1, a0_2, l0_3, l0_4⟩ r2 A0_3 c0_3 A0_4 c0_4 w hr0_3 hc0_3 hr0_4 hc0_4 he (fun h => absurd h hz)
  rw [if_neg hz] at hs
  exact hs
end Go.Proofs.YtloocmeckpoflaaGreat.D
