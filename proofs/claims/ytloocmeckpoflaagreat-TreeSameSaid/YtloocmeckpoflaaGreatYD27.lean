import Derived.Test.YtloocmeckpoflaaGreatYD0
import Derived.Test.YtloocmeckpoflaaGreatYD2
import Derived.Test.YtloocmeckpoflaaGreatYD5
import Derived.Test.YtloocmeckpoflaaGreatYD6
import Derived.Test.YtloocmeckpoflaaGreatYD22
import Derived.Test.YtloocmeckpoflaaGreatYD24
import Derived.Test.YtloocmeckpoflaaGreatYD26
namespace Go.Proofs.YtloocmeckpoflaaGreat.D
open Go.Proofs.YtloocmeckpoflaaGreatW.PrintWords renaming blk_cell → b', blk_below → c', below_size → e', below_step → g', blk_far → k'
open Go.Proofs.YtloocmeckpoflaaGreatW.PrintWords.Kd renaming R_below → d', R_mono → f', R_far → h', R_reads' → j'
open List renaming setIfInBounds_toArray → l', set_cons_zero → m', set_cons_succ → n', map_toArray → o', map_cons → p', map_nil → q', length_drop → r', length_take → s'
open Go.Proofs.YtloocmeckpoflaaGreatW.PrintWords.Aside0 renaming mk → u'
open Bool renaming true → Y, false → Z
open Go.RowKit Go.Proofs.YtloocmeckpoflaaGreatW.PrintWords Go.Proofs.YtloocmeckpoflaaGreatW.PrintLast Go.Proofs.YtloocmeckpoflaaGreatW.PrintMore
attribute [local go_sem] max2_int min2_int max_two min_two max_three min_three max_four min_four   -- for this text's walks alone
set_option linter.unusedVariables false
set_option linter.unusedSimpArgs false
def fanlightlaw09_TreeSame.f (k : Nat) (a0_0 : ByteArray) (a0_1 : ByteArray) (a0_2 : ByteArray) (l0_3 : List (S91)) (l0_4 : List (S25)) (a1_0 : ByteArray) (a1_1 : ByteArray) (a1_2 : ByteArray) (l1_3 : List (S91)) (l1_4 : List (S25)) : Option (Bool) := (fanlightplain_CopyTree.f k a0_0 a0_1 a0_2 l0_3 l0_4).bind fun bt183 => ((fanlightplain_CopyTree.f k a1_0 a1_1 a1_2 l1_3 l1_4).bind fun bt192 => ((fanlightref09_Check.f k a0_0 a0_1 a0_2 l0_3 l0_4).bind fun t203 => ((tree_Same.f bt183.1 bt183.2.1 bt183.2.2.1 bt183.2.2.2.1 bt183.2.2.2.2 bt192.1 bt192.2.1 bt192.2.2.1 bt192.2.2.2.1 bt192.2.2.2.2).bind fun t204 => ((fanlightref09_Same.f k a0_0 a0_1 a0_2 l0_3 l0_4 a1_0 a1_1 a1_2 l1_3 l1_4).bind fun t205 => (if (t204 == t205) = true then ((fanlightplain_CopyTree.f k a0_0 a0_1 a0_2 l0_3 l0_4).bind fun bt206 => ((tree_Same.f bt183.1 bt183.2.1 bt183.2.2.1 bt183.2.2.2.1 bt183.2.2.2.2 bt206.1 bt206.2.1 bt206.2.2.1 bt206.2.2.2.1 bt206.2.2.2.2).bind fun t215 => (if (t215 == (t203 == 0)) = true then ((fanlightplain_SameTree.f k bt183.1 bt183.2.1 bt183.2.2.1 bt183.2.2.2.1 bt183.2.2.2.2 a0_0 a0_1 a0_2 l0_3 l0_4).bind fun t216 => (if t216 = true then ((fanlightplain_SameTree.f k bt192.1 bt192.2.1 bt192.2.2.1 bt192.2.2.2.1 bt192.2.2.2.2 a1_0 a1_1 a1_2 l1_3 l1_4).bind fun t217 => (if t217 = true then ((fanlightlaw09_alive.f).bind fun t218 => (some t218)) else (some false))) else (some false))) else (some false)))) else (some false))))))
theorem fanlightlaw09_TreeSame.mono : ∀ a0 a1 a2 a3 a4 a5 a6 a7 a8 a9 k, LeO (fanlightlaw09_TreeSame.f k a0 a1 a2 a3 a4 a5 a6 a7 a8 a9) (fanlightlaw09_TreeSame.f (k + 1) a0 a1 a2 a3 a4 a5 a6 a7 a8 a9) := by
 intro a0 a1 a2 a3 a4 a5 a6 a7 a8 a9 k
 unfold fanlightlaw09_TreeSame.f
 repeat' first
   | (with_reducible exact fanlightplain_CopyTree.mono _ _ _ _ _ _)
   | (with_reducible exact fanlightplain_SameTree.mono _ _ _ _ _ _ _ _ _ _ _)
   | (with_reducible exact fanlightref09_Check.mono _ _ _ _ _ _)
   | (with_reducible exact fanlightref09_Same.mono _ _ _ _ _ _ _ _ _ _ _)
   | (with_reducible exact LeO.refl _)
   | (with_reducible exact LeO.none _)
   | (with_reducible refine LeO.ite ?_ ?_)
   | (with_reducible refine LeO.bind ?_ (fun _ => ?_))
   | exact fanlightplain_CopyTree.mono _ _ _ _ _ _
   | exact fanlightplain_SameTree.mono _ _ _ _ _ _ _ _ _ _ _
   | exact fanlightref09_Check.mono _ _ _ _ _ _
   | exact fanlightref09_Same.mono _ _ _ _ _ _ _ _ _ _ _
   | exact LeO.none _
   | refine LeO.ite ?_ ?_
   | refine LeO.bind ?_ (fun _ => ?_)
def fanlightlaw09_TreeSame.T1 : Bool × List (List Nat × List Nat) := (true, [([], []), ([0], [0]), ([], []), ([2, 1], [2]), ([], []), ([], []), ([4, 1, 3, 0, 1, 4, 5], [1, 4]), ([5, 3, 6, 0, 1, 2, 3, 4, 5, 6], [3, 5])])
def fanlightlaw09_TreeSame.B1 : List Nat := [0, 1, 0, 7, 0, 0, 63, 127]
theorem fanlightlaw09_TreeSame.tab1 : rtab .any (opsOf Tryz.f4 1) = fanlightlaw09_TreeSame.T1 := by kernel_rfl
theorem fanlightlaw09_TreeSame.bits1 : waitsOk fanlightlaw09_TreeSame.T1.2 fanlightlaw09_TreeSame.B1 = true := by kernel_rfl
def fanlightlaw09_TreeSame.T3 : Bool × List (List Nat × List Nat) := (true, [([], []), ([], []), ([0, 1], [0, 1]), ([], []), ([], []), ([3, 4, 2], [3, 4]), ([2, 5], [2, 5]), ([6, 5], [6]), ([7], [7]), ([7], [7]), ([9, 7, 7], [7, 9]), ([8, 10, 10, 7], [7, 8, 10]), ([7], [7]), ([11, 12, 7], [7, 11, 12]), ([7, 13], [7, 13]), ([14, 11], [14]), ([15], [15]), ([15], [15]), ([16, 17, 15, 15], [15, 16, 17]), ([15, 18], [15, 18]), ([19, 18], [19]), ([20], [20]), ([20], [20]), ([21, 22, 20, 20], [20, 21, 22]), ([20, 23], [20, 23]), ([24, 23], [24]), ([25, 25], [25]), ([25, 26], [25, 26]), ([27, 26, 0, 1, 2, 3, 4, 5, 6, 7, 8, 9, 10, 11, 12, 13, 14, 15, 16, 17, 18, 19, 20, 21, 22, 23, 24, 25, 26, 27], [27])])
def fanlightlaw09_TreeSame.B3 : List Nat := [0, 0, 3, 0, 0, 31, 63, 127, 255, 255, 767, 2047, 255, 8191, 16383, 32767, 65535, 65535, 262143, 524287, 1048575, 2097151, 2097151, 8388607, 16777215, 33554431, 67108863, 134217727, 268435455]
theorem fanlightlaw09_TreeSame.tab3 : rtab .any (opsOf Tryz.f4 3) = fanlightlaw09_TreeSame.T3 := by kernel_rfl
theorem fanlightlaw09_TreeSame.bits3 : waitsOk fanlightlaw09_TreeSame.T3.2 fanlightlaw09_TreeSame.B3 = true := by kernel_rfl
set_option maxHeartbeats 8000000 in
set_option maxRecDepth 100000 in
theorem fanlightlaw09_TreeSame.calls (k : Nat) (a0_0 : ByteArray) (a0_1 : ByteArray) (a0_2 : ByteArray) (A0_3 : Option Addr) (c0_3 : Nat) (l0_3 : List (S91)) (A0_4 : Option Addr) (c0_4 : Nat) (l0_4 : List (S25)) (a1_0 : ByteArray) (a1_1 : ByteArray) (a1_2 : ByteArray) (A1_3 : Option Addr) (c1_3 : Nat) (l1_3 : List (S91)) (A1_4 : Option Addr) (c1_4 : Nat) (l1_4 : List (S25)) (r : Bool) (w : World) (hr0_3 : Kd.C k91 w A0_3 l0_3.length l0_3) (hc0_3 : l0_3.length ≤ c0_3) (hr0_4 : Kd.C k25 w A0_4 l0_4.length l0_4) (hc0_4 : l0_4.length ≤ c0_4) (hr1_3 : Kd.C k91 w A1_3 l1_3.length l1_3) (hc1_3 : l1_3.length ≤ c1_3) (hr1_4 : Kd.C k25 w A1_4 l1_4.length l1_4) (hc1_4 : l1_4.length ≤ c1_4) (h : fanlightlaw09_TreeSame.f k a0_0 a0_1 a0_2 l0_3 l0_4 a1_0 a1_1 a1_2 l1_3 l1_4 = some r) (hT : r = true) (hA : ∀ (r : Bool), fanlightlaw09_alive.f = some r → r = true) :
  Calls Tryz.prog 4 #[.agg #[.string a0_0, .string a0_1, .string a0_2, .slice A0_3 l0_3.length c0_3, .slice A0_4 l0_4.length c0_4], .agg #[.string a1_0, .string a1_1, .string a1_2, .slice A1_3 l1_3.length c1_3, .slice A1_4 l1_4.length c1_4]] w fun e w' => e = .returned (.bool r) ∧ Below w.heap.size w w' := by
 have hu25 := Tryz.underlying25
 have HR0_3 := u' hr0_3
 have HC0_3 := u' hc0_3
 clear hr0_3 hc0_3
 have HR0_4 := u' hr0_4
 have HC0_4 := u' hc0_4
 clear hr0_4 hc0_4
 have HR1_3 := u' hr1_3
 have HC1_3 := u' hc1_3
 clear hr1_3 hc1_3
 have HR1_4 := u' hr1_4
 have HC1_4 := u' hc1_4
 clear hr1_4 hc1_4
 have HB := u' (Below.refl w.heap.size w)
 have H : ((fanlightplain_CopyTree.f k a0_0 a0_1 a0_2 l0_3 l0_4).bind fun bt183 => ((fanlightplain_CopyTree.f k a1_0 a1_1 a1_2 l1_3 l1_4).bind fun bt192 => ((fanlightref09_Check.f k a0_0 a0_1 a0_2 l0_3 l0_4).bind fun t203 => ((tree_Same.f bt183.1 bt183.2.1 bt183.2.2.1 bt183.2.2.2.1 bt183.2.2.2.2 bt192.1 bt192.2.1 bt192.2.2.1 bt192.2.2.2.1 bt192.2.2.2.2).bind fun t204 => ((fanlightref09_Same.f k a0_0 a0_1 a0_2 l0_3 l0_4 a1_0 a1_1 a1_2 l1_3 l1_4).bind fun t205 => (if (t204 == t205) = true then ((fanlightplain_CopyTree.f k a0_0 a0_1 a0_2 l0_3 l0_4).bind fun bt206 => ((tree_Same.f bt183.1 bt183.2.1 bt183.2.2.1 bt183.2.2.2.1 bt183.2.2.2.2 bt206.1 bt206.2.1 bt206.2.2.1 bt206.2.2.2.1 bt206.2.2.2.2).bind fun t215 => (if (t215 == (t203 == 0)) = true then ((fanlightplain_SameTree.f k bt183.1 bt183.2.1 bt183.2.2.1 bt183.2.2.2.1 bt183.2.2.2.2 a0_0 a0_1 a0_2 l0_3 l0_4).bind fun t216 => (if t216 = true then ((fanlightplain_SameTree.f k bt192.1 bt192.2.1 bt192.2.2.1 bt192.2.2.2.1 bt192.2.2.2.2 a1_0 a1_1 a1_2 l1_3 l1_4).bind fun t217 => (if t217 = true then ((fanlightlaw09_alive.f).bind fun t218 => (some t218)) else (some false))) else (some false))) else (some false)))) else (some false))))))) = some r := h
 clear h
 replace H := Option.bind_eq_some_iff.mp H
 obtain ⟨⟨t183, t184, t185, t186, t189⟩, A30, H⟩ := H
 (try dsimp only at H)
 have A3 := u' A30
 clear A30
 replace H := Option.bind_eq_some_iff.mp H
 obtain ⟨⟨t192, t193, t194, t195, t198⟩, A40, H⟩ := H
 (try dsimp only at H)
 have A4 := u' A40
 clear A40
 replace H := Option.bind_eq_some_iff.mp H
 obtain ⟨t203, A50, H⟩ := H
 (try dsimp only at H)
 have A5 := u' A50
 clear A50
 replace H := Option.bind_eq_some_iff.mp H
 obtain ⟨t204, A60, H⟩ := H
 (try dsimp only at H)
 have A6 := u' A60
 clear A60
 replace H := Option.bind_eq_some_iff.mp H
 obtain ⟨t205, A70, H⟩ := H
 (try dsimp only at H)
 have A7 := u' A70
 clear A70
 by_cases c8 : (t204 == t205) = true
 ·
  rw [if_pos c8] at H
  have c8b0 : (t204 == t205) = true := c8
  (try (have c8b1 : decide (t204 = t205) = true := by simpa using c8))
  (try (have c8b2 : (t204 == t205) = true := by simpa using c8))
  clear c8
  replace H := Option.bind_eq_some_iff.mp H
  obtain ⟨⟨t206, t207, t208, t209, t212⟩, A90, H⟩ := H
  (try dsimp only at H)
  have A9 := u' A90
  clear A90
  replace H := Option.bind_eq_some_iff.mp H
  obtain ⟨t215, A100, H⟩ := H
  (try dsimp only at H)
  have A10 := u' A100
  clear A100
  by_cases c11 : (t215 == (t203 == 0)) = true
  ·
   rw [if_pos c11] at H
   have c11b0 : (t215 == (t203 == 0)) = true := c11
   (try (have c11b1 : decide (t215 = (t203 == 0)) = true := by simpa using c11))
   (try (have c11b2 : (t215 == (t203 == 0)) = true := by simpa using c11))
   clear c11
   replace H := Option.bind_eq_some_iff.mp H
   obtain ⟨t216, A120, H⟩ := H
   (try dsimp only at H)
   have A12 := u' A120
   clear A120
   by_cases c13 : t216 = true
   ·
    subst c13
    have H1 : ((fanlightplain_SameTree.f k t192 t193 t194 t195 t198 a1_0 a1_1 a1_2 l1_3 l1_4).bind fun t217 => (if t217 = true then ((fanlightlaw09_alive.f).bind fun t218 => (some t218)) else (some false))) = some r := by rw [if_pos rfl] at H; exact H
    clear H
    have H := H1
    clear H1
    replace H := Option.bind_eq_some_iff.mp H
    obtain ⟨t217, A140, H⟩ := H
    (try dsimp only at H)
    have A14 := u' A140
    clear A140
    by_cases c15 : t217 = true
    ·
     subst c15
     have H1 : ((fanlightlaw09_alive.f).bind fun t218 => (some t218)) = some r := by rw [if_pos rfl] at H; exact H
     clear H
     have H := H1
     clear H1
     replace H := Option.bind_eq_some_iff.mp H
     obtain ⟨t218, A160, H⟩ := H
     (try dsimp only at H)
     have A16 := u' A160
     clear A160
     obtain rfl := Option.some.inj H
     go_enter Tryz.func4, Tryz.ntmps4
     try go_wp2_with (first | ((with_reducible refine gate_dst (N := 2) rfl ?_); refine box_event ?hg (N := 2) ?hd (cs := #[.string a0_0, .string a0_1, .string a0_2, .slice A0_3 l0_3.length c0_3, .slice A0_4 l0_4.length c0_4]) (t := 25) ?hr ?_; (case hd => rfl); (case hg => rfl); (case hr => first | (go_simp; done) | (go_simp; rfl)); intro gb181 hg w17 hbox hb; have n0_ := u' (g' (eH HB) hb); have n1_ := u' (hbox); have n2_ := u' ((by rw [hg]; exact (e' (eH HB)) : w.heap.size ≤ gb181)); have n3_ := u' ((by rw [hg]; exact (e' (eH HB)) : w.heap.size ≤ gb181)); clear HB; have HB := n0_; have BK181 := n1_; have GW181 := n2_; have GE181 := n3_; clear n0_ n1_ n2_ n3_; clear hb hbox hg) | ((with_reducible refine gate_dst (N := 3) rfl ?_); refine box_event ?hg (N := 3) ?hd (cs := #[.string a1_0, .string a1_1, .string a1_2, .slice A1_3 l1_3.length c1_3, .slice A1_4 l1_4.length c1_4]) (t := 25) ?hr ?_; (case hd => rfl); (case hg => rfl); (case hr => first | (go_simp; done) | (go_simp; rfl)); intro gb182 hg w18 hbox hb; have n0_ := u' (c' (g := gb181) (o := .cells #[.string a0_0, .string a0_1, .string a0_2, .slice A0_3 l0_3.length c0_3, .slice A0_4 l0_4.length c0_4] 25 (0, 0)) (eB BK181) hb); have n1_ := u' (g' (eH HB) hb); have n2_ := u' (hbox); have n3_ := u' ((by rw [hg]; exact (e' (eH HB)) : w.heap.size ≤ gb182)); have n4_ := u' ((by rw [hg]; exact (e' (eH HB)) : w.heap.size ≤ gb182)); have n5_ := u' ((by rw [hg]; exact Nat.ne_of_lt (blk_lt (g := gb181) (o := .cells #[.string a0_0, .string a0_1, .string a0_2, .slice A0_3 l0_3.length c0_3, .slice A0_4 l0_4.length c0_4] 25 (0, 0)) (eB BK181)) : gb181 ≠ gb182)); have n6_ := u' ((by rw [hg]; exact Nat.ne_of_gt (blk_lt (g := gb181) (o := .cells #[.string a0_0, .string a0_1, .string a0_2, .slice A0_3 l0_3.length c0_3, .slice A0_4 l0_4.length c0_4] 25 (0, 0)) (eB BK181)) : gb182 ≠ gb181)); clear BK181; clear HB; have BK181 := n0_; have HB := n1_; have BK182 := n2_; have GW182 := n3_; have GE182 := n4_; have NB181_182 := n5_; have NB182_181 := n6_; clear n0_ n1_ n2_ n3_ n4_ n5_ n6_; clear hb hbox hg))
     have n0_ := u' (blk_drew BK181.out)
     have n1_ := u' (blk_drew BK182.out)
     have n2_ := u' (below_drew1 HB.out)
     clear BK181
     clear BK182
     clear HB
     have BK181 := n0_
     have BK182 := n1_
     have HB := n2_
     clear n0_ n1_ n2_
     refine start_ (n := 8) (S := fun w' => w'.cell? ⟨gb181, 0, none⟩ = some (.string a0_0) ∧ w'.cell? ⟨gb181, 1, none⟩ = some (.string a0_1) ∧ w'.cell? ⟨gb181, 2, none⟩ = some (.string a0_2) ∧ w'.cell? ⟨gb181, 3, none⟩ = some (.slice A0_3 l0_3.length c0_3) ∧ w'.cell? ⟨gb181, 4, none⟩ = some (.slice A0_4 l0_4.length c0_4) ∧ w'.cell? ⟨gb182, 0, none⟩ = some (.string a1_0) ∧ w'.cell? ⟨gb182, 1, none⟩ = some (.string a1_1) ∧ w'.cell? ⟨gb182, 2, none⟩ = some (.string a1_2) ∧ w'.cell? ⟨gb182, 3, none⟩ = some (.slice A1_3 l1_3.length c1_3) ∧ w'.cell? ⟨gb182, 4, none⟩ = some (.slice A1_4 l1_4.length c1_4)) (ds := []) #[Z,Z,Z,Z,Z,Z,Z,Z] (by kernel_rfl) rfl rfl ⟨(b' BK181.out 0).trans rfl, (b' BK181.out 1).trans rfl, (b' BK181.out 2).trans rfl, (b' BK181.out 3).trans rfl, (b' BK181.out 4).trans rfl, (b' BK182.out 0).trans rfl, (b' BK182.out 1).trans rfl, (b' BK182.out 2).trans rfl, (b' BK182.out 3).trans rfl, (b' BK182.out 4).trans rfl⟩ (fun hHeld => ?_); refine with_tabW fanlightlaw09_TreeSame.tab1 fanlightlaw09_TreeSame.bits1 (fun HT_ HW_ => ?_)
     generalize w18.drew = w19 at BK181 BK182 HB hHeld ⊢
     refine take_ (i := 0) (N := some 8) (v := ?_) (a' := ?_) #[Y,Z,Z,Z,Z,Z,Z,Z] rfl rfl (take_ofW HT_.out HW_.out (by kernel_rfl)) (fun _ _ _ h => h) (Or.inl ⟨by rfl, ?_⟩) hHeld ?_ ?_
     rotate_left
     ·
      rintro w' ⟨s0, s1, s2, s3, s4, s5, s6, s7, s8, s9⟩
      go_simp
      with_reducible rfl
     rotate_left
     ·
      simp only [Act.put, l', m', n', i64_w, i32_w]
      rfl
     refine take_ (i := 2) (N := some 10) (v := ?_) (a' := ?_) #[Y,Z,Y,Z,Z,Z,Z,Z] rfl rfl (take_ofW HT_.out HW_.out (by kernel_rfl)) (fun _ _ _ h => h) (Or.inl ⟨by rfl, ?_⟩) hHeld ?_ ?_
     rotate_left
     ·
      rintro w' ⟨s0, s1, s2, s3, s4, s5, s6, s7, s8, s9⟩
      go_simp
      with_reducible rfl
     rotate_left
     ·
      simp only [Act.put, l', m', n', i64_w, i32_w]
      rfl
     refine join_ (σ := Value × Value × Value × Value × Nat × Nat) 2 #[Y,Y,Y,Y,Y,Y,Z,Z] (fun s_ => [(9, .agg #[.string t183, .string t184, .string t185, s_.1, s_.2.1]), (11, .agg #[.string t192, .string t193, .string t194, s_.2.2.1, s_.2.2.2.1]), (5, .pointer (some ⟨s_.2.2.2.2.1, 0, none⟩)), (6, .pointer (some ⟨s_.2.2.2.2.2, 0, none⟩))]) (fun s_ w' => (w'.cell? ⟨gb181, 0, none⟩ = some (.string a0_0) ∧ w'.cell? ⟨gb181, 1, none⟩ = some (.string a0_1) ∧ w'.cell? ⟨gb181, 2, none⟩ = some (.string a0_2) ∧ w'.cell? ⟨gb181, 3, none⟩ = some (.slice A0_3 l0_3.length c0_3) ∧ w'.cell? ⟨gb181, 4, none⟩ = some (.slice A0_4 l0_4.length c0_4) ∧ w'.cell? ⟨gb182, 0, none⟩ = some (.string a1_0) ∧ w'.cell? ⟨gb182, 1, none⟩ = some (.string a1_1) ∧ w'.cell? ⟨gb182, 2, none⟩ = some (.string a1_2) ∧ w'.cell? ⟨gb182, 3, none⟩ = some (.slice A1_3 l1_3.length c1_3) ∧ w'.cell? ⟨gb182, 4, none⟩ = some (.slice A1_4 l1_4.length c1_4)) ∧ (Kd.R k91 91 w' w.heap.size (fun k_ => some k_ ≠ (s_.2.2.1 : Value).ownBlock) s_.1 t186) ∧ (Kd.R k25 25 w' w.heap.size (fun k_ => some k_ ≠ (s_.1 : Value).ownBlock ∧ some k_ ≠ (s_.2.2.1 : Value).ownBlock ∧ some k_ ≠ (s_.2.2.2.1 : Value).ownBlock ∧ k_ ≠ gb181 ∧ k_ ≠ gb182 ∧ k_ ≠ s_.2.2.2.2.1 ∧ k_ ≠ s_.2.2.2.2.2) s_.2.1 t189) ∧ (Kd.R k91 91 w' w.heap.size (fun k_ => some k_ ≠ (s_.1 : Value).ownBlock) s_.2.2.1 t195) ∧ (Kd.R k25 25 w' w.heap.size (fun k_ => some k_ ≠ (s_.1 : Value).ownBlock ∧ some k_ ≠ (s_.2.1 : Value).ownBlock ∧ some k_ ≠ (s_.2.2.1 : Value).ownBlock ∧ k_ ≠ gb181 ∧ k_ ≠ gb182 ∧ k_ ≠ s_.2.2.2.2.1 ∧ k_ ≠ s_.2.2.2.2.2) s_.2.2.2.1 t198) ∧ (w'.heap[gb181]? = some (.cells #[.string a0_0, .string a0_1, .string a0_2, .slice A0_3 l0_3.length c0_3, .slice A0_4 l0_4.length c0_4] 25 (0, 0))) ∧ (w'.heap[gb182]? = some (.cells #[.string a1_0, .string a1_1, .string a1_2, .slice A1_3 l1_3.length c1_3, .slice A1_4 l1_4.length c1_4] 25 (0, 0))) ∧ (w'.heap[s_.2.2.2.2.1]? = some (.cells #[.string (⟨#[]⟩ : ByteArray), .string (⟨#[]⟩ : ByteArray), .string (⟨#[]⟩ : ByteArray), .slice none 0 0, .slice none 0 0] 25 (0, 0))) ∧ (w'.heap[s_.2.2.2.2.2]? = some (.cells #[.string (⟨#[]⟩ : ByteArray), .string (⟨#[]⟩ : ByteArray), .string (⟨#[]⟩ : ByteArray), .slice none 0 0, .slice none 0 0] 25 (0, 0))) ∧ (w.heap.size ≤ s_.2.2.2.2.1) ∧ (w.heap.size ≤ s_.2.2.2.2.1) ∧ (gb181 ≠ s_.2.2.2.2.1) ∧ (s_.2.2.2.2.1 ≠ gb181) ∧ (gb182 ≠ s_.2.2.2.2.1) ∧ (s_.2.2.2.2.1 ≠ gb182) ∧ (s_.2.2.2.2.2 ≠ s_.2.2.2.2.1) ∧ (s_.2.2.2.2.1 ≠ s_.2.2.2.2.2) ∧ (w.heap.size ≤ s_.2.2.2.2.2) ∧ (w.heap.size ≤ s_.2.2.2.2.2) ∧ (gb181 ≠ s_.2.2.2.2.2) ∧ (s_.2.2.2.2.2 ≠ gb181) ∧ (gb182 ≠ s_.2.2.2.2.2) ∧ (s_.2.2.2.2.2 ≠ gb182) ∧ (Below w.heap.size w w')) ?_ ?_
     rotate_left
     ·
      intro hJ1_3_4_5
      refine join_ (σ := Value × Value × Value × Value × Nat) 3 #[Y,Y,Y,Y,Y,Z,Z,Z] (fun s_ => [(9, .agg #[.string t183, .string t184, .string t185, s_.1, s_.2.1]), (11, .agg #[.string t192, .string t193, .string t194, s_.2.2.1, s_.2.2.2.1]), (5, .pointer (some ⟨s_.2.2.2.2, 0, none⟩))]) (fun s_ w' => (w'.cell? ⟨gb181, 0, none⟩ = some (.string a0_0) ∧ w'.cell? ⟨gb181, 1, none⟩ = some (.string a0_1) ∧ w'.cell? ⟨gb181, 2, none⟩ = some (.string a0_2) ∧ w'.cell? ⟨gb181, 3, none⟩ = some (.slice A0_3 l0_3.length c0_3) ∧ w'.cell? ⟨gb181, 4, none⟩ = some (.slice A0_4 l0_4.length c0_4) ∧ w'.cell? ⟨gb182, 0, none⟩ = some (.string a1_0) ∧ w'.cell? ⟨gb182, 1, none⟩ = some (.string a1_1) ∧ w'.cell? ⟨gb182, 2, none⟩ = some (.string a1_2) ∧ w'.cell? ⟨gb182, 3, none⟩ = some (.slice A1_3 l1_3.length c1_3) ∧ w'.cell? ⟨gb182, 4, none⟩ = some (.slice A1_4 l1_4.length c1_4)) ∧ (Kd.R k91 91 w' w.heap.size (fun k_ => some k_ ≠ (s_.2.2.1 : Value).ownBlock) s_.1 t186) ∧ (Kd.R k25 25 w' w.heap.size (fun k_ => some k_ ≠ (s_.1 : Value).ownBlock ∧ some k_ ≠ (s_.2.2.1 : Value).ownBlock ∧ some k_ ≠ (s_.2.2.2.1 : Value).ownBlock ∧ k_ ≠ gb181 ∧ k_ ≠ gb182 ∧ k_ ≠ s_.2.2.2.2) s_.2.1 t189) ∧ (Kd.R k91 91 w' w.heap.size (fun k_ => some k_ ≠ (s_.1 : Value).ownBlock) s_.2.2.1 t195) ∧ (Kd.R k25 25 w' w.heap.size (fun k_ => some k_ ≠ (s_.1 : Value).ownBlock ∧ some k_ ≠ (s_.2.1 : Value).ownBlock ∧ some k_ ≠ (s_.2.2.1 : Value).ownBlock ∧ k_ ≠ gb181 ∧ k_ ≠ gb182 ∧ k_ ≠ s_.2.2.2.2) s_.2.2.2.1 t198) ∧ (w'.heap[gb181]? = some (.cells #[.string a0_0, .string a0_1, .string a0_2, .slice A0_3 l0_3.length c0_3, .slice A0_4 l0_4.length c0_4] 25 (0, 0))) ∧ (w'.heap[gb182]? = some (.cells #[.string a1_0, .string a1_1, .string a1_2, .slice A1_3 l1_3.length c1_3, .slice A1_4 l1_4.length c1_4] 25 (0, 0))) ∧ (w'.heap[s_.2.2.2.2]? = some (.cells #[.string (⟨#[]⟩ : ByteArray), .string (⟨#[]⟩ : ByteArray), .string (⟨#[]⟩ : ByteArray), .slice none 0 0, .slice none 0 0] 25 (0, 0))) ∧ (w.heap.size ≤ s_.2.2.2.2) ∧ (w.heap.size ≤ s_.2.2.2.2) ∧ (gb181 ≠ s_.2.2.2.2) ∧ (s_.2.2.2.2 ≠ gb181) ∧ (gb182 ≠ s_.2.2.2.2) ∧ (s_.2.2.2.2 ≠ gb182) ∧ (Below w.heap.size w w')) ?_ ?_
      rotate_left
      ·
       intro hJ1_3_4
       refine join_ (σ := Value × Value × Value × Value × Nat) 3 #[Y,Y,Y,Y,Z,Y,Z,Z] (fun s_ => [(9, .agg #[.string t183, .string t184, .string t185, s_.1, s_.2.1]), (11, .agg #[.string t192, .string t193, .string t194, s_.2.2.1, s_.2.2.2.1]), (6, .pointer (some ⟨s_.2.2.2.2, 0, none⟩))]) (fun s_ w' => (w'.cell? ⟨gb181, 0, none⟩ = some (.string a0_0) ∧ w'.cell? ⟨gb181, 1, none⟩ = some (.string a0_1) ∧ w'.cell? ⟨gb181, 2, none⟩ = some (.string a0_2) ∧ w'.cell? ⟨gb181, 3, none⟩ = some (.slice A0_3 l0_3.length c0_3) ∧ w'.cell? ⟨gb181, 4, none⟩ = some (.slice A0_4 l0_4.length c0_4) ∧ w'.cell? ⟨gb182, 0, none⟩ = some (.string a1_0) ∧ w'.cell? ⟨gb182, 1, none⟩ = some (.string a1_1) ∧ w'.cell? ⟨gb182, 2, none⟩ = some (.string a1_2) ∧ w'.cell? ⟨gb182, 3, none⟩ = some (.slice A1_3 l1_3.length c1_3) ∧ w'.cell? ⟨gb182, 4, none⟩ = some (.slice A1_4 l1_4.length c1_4)) ∧ (Kd.R k91 91 w' w.heap.size (fun k_ => some k_ ≠ (s_.2.2.1 : Value).ownBlock) s_.1 t186) ∧ (Kd.R k25 25 w' w.heap.size (fun k_ => some k_ ≠ (s_.1 : Value).ownBlock ∧ some k_ ≠ (s_.2.2.1 : Value).ownBlock ∧ some k_ ≠ (s_.2.2.2.1 : Value).ownBlock ∧ k_ ≠ gb181 ∧ k_ ≠ gb182 ∧ k_ ≠ s_.2.2.2.2) s_.2.1 t189) ∧ (Kd.R k91 91 w' w.heap.size (fun k_ => some k_ ≠ (s_.1 : Value).ownBlock) s_.2.2.1 t195) ∧ (Kd.R k25 25 w' w.heap.size (fun k_ => some k_ ≠ (s_.1 : Value).ownBlock ∧ some k_ ≠ (s_.2.1 : Value).ownBlock ∧ some k_ ≠ (s_.2.2.1 : Value).ownBlock ∧ k_ ≠ gb181 ∧ k_ ≠ gb182 ∧ k_ ≠ s_.2.2.2.2) s_.2.2.2.1 t198) ∧ (w'.heap[gb181]? = some (.cells #[.string a0_0, .string a0_1, .string a0_2, .slice A0_3 l0_3.length c0_3, .slice A0_4 l0_4.length c0_4] 25 (0, 0))) ∧ (w'.heap[gb182]? = some (.cells #[.string a1_0, .string a1_1, .string a1_2, .slice A1_3 l1_3.length c1_3, .slice A1_4 l1_4.length c1_4] 25 (0, 0))) ∧ (w'.heap[s_.2.2.2.2]? = some (.cells #[.string (⟨#[]⟩ : ByteArray), .string (⟨#[]⟩ : ByteArray), .string (⟨#[]⟩ : ByteArray), .slice none 0 0, .slice none 0 0] 25 (0, 0))) ∧ (w.heap.size ≤ s_.2.2.2.2) ∧ (w.heap.size ≤ s_.2.2.2.2) ∧ (gb181 ≠ s_.2.2.2.2) ∧ (s_.2.2.2.2 ≠ gb181) ∧ (gb182 ≠ s_.2.2.2.2) ∧ (s_.2.2.2.2 ≠ gb182) ∧ (Below w.heap.size w w')) ?_ ?_
       rotate_left
       ·
        intro hJ1_3_5
        refine join_ (σ := Value × Value × Nat × Nat) 3 #[Y,Y,Y,Z,Y,Y,Z,Z] (fun s_ => [(9, .agg #[.string t183, .string t184, .string t185, s_.1, s_.2.1]), (5, .pointer (some ⟨s_.2.2.1, 0, none⟩)), (6, .pointer (some ⟨s_.2.2.2, 0, none⟩))]) (fun s_ w' => (w'.cell? ⟨gb181, 0, none⟩ = some (.string a0_0) ∧ w'.cell? ⟨gb181, 1, none⟩ = some (.string a0_1) ∧ w'.cell? ⟨gb181, 2, none⟩ = some (.string a0_2) ∧ w'.cell? ⟨gb181, 3, none⟩ = some (.slice A0_3 l0_3.length c0_3) ∧ w'.cell? ⟨gb181, 4, none⟩ = some (.slice A0_4 l0_4.length c0_4) ∧ w'.cell? ⟨gb182, 0, none⟩ = some (.string a1_0) ∧ w'.cell? ⟨gb182, 1, none⟩ = some (.string a1_1) ∧ w'.cell? ⟨gb182, 2, none⟩ = some (.string a1_2) ∧ w'.cell? ⟨gb182, 3, none⟩ = some (.slice A1_3 l1_3.length c1_3) ∧ w'.cell? ⟨gb182, 4, none⟩ = some (.slice A1_4 l1_4.length c1_4)) ∧ (Kd.R k91 91 w' w.heap.size (fun _ => True) s_.1 t186) ∧ (Kd.R k25 25 w' w.heap.size (fun k_ => some k_ ≠ (s_.1 : Value).ownBlock ∧ k_ ≠ gb181 ∧ k_ ≠ gb182 ∧ k_ ≠ s_.2.2.1 ∧ k_ ≠ s_.2.2.2) s_.2.1 t189) ∧ (w'.heap[gb181]? = some (.cells #[.string a0_0, .string a0_1, .string a0_2, .slice A0_3 l0_3.length c0_3, .slice A0_4 l0_4.length c0_4] 25 (0, 0))) ∧ (w'.heap[gb182]? = some (.cells #[.string a1_0, .string a1_1, .string a1_2, .slice A1_3 l1_3.length c1_3, .slice A1_4 l1_4.length c1_4] 25 (0, 0))) ∧ (w'.heap[s_.2.2.1]? = some (.cells #[.string (⟨#[]⟩ : ByteArray), .string (⟨#[]⟩ : ByteArray), .string (⟨#[]⟩ : ByteArray), .slice none 0 0, .slice none 0 0] 25 (0, 0))) ∧ (w'.heap[s_.2.2.2]? = some (.cells #[.string (⟨#[]⟩ : ByteArray), .string (⟨#[]⟩ : ByteArray), .string (⟨#[]⟩ : ByteArray), .slice none 0 0, .slice none 0 0] 25 (0, 0))) ∧ (w.heap.size ≤ s_.2.2.1) ∧ (w.heap.size ≤ s_.2.2.1) ∧ (gb181 ≠ s_.2.2.1) ∧ (s_.2.2.1 ≠ gb181) ∧ (gb182 ≠ s_.2.2.1) ∧ (s_.2.2.1 ≠ gb182) ∧ (s_.2.2.2 ≠ s_.2.2.1) ∧ (s_.2.2.1 ≠ s_.2.2.2) ∧ (w.heap.size ≤ s_.2.2.2) ∧ (w.heap.size ≤ s_.2.2.2) ∧ (gb181 ≠ s_.2.2.2) ∧ (s_.2.2.2 ≠ gb181) ∧ (gb182 ≠ s_.2.2.2) ∧ (s_.2.2.2 ≠ gb182) ∧ (Below w.heap.size w w')) ?_ ?_
        rotate_left
        ·
         intro hJ1_4_5
         refine join_ (σ := Value × Value × Value × Value) 4 #[Y,Y,Y,Y,Z,Z,Z,Z] (fun s_ => [(9, .agg #[.string t183, .string t184, .string t185, s_.1, s_.2.1]), (11, .agg #[.string t192, .string t193, .string t194, s_.2.2.1, s_.2.2.2])]) (fun s_ w' => (w'.cell? ⟨gb181, 0, none⟩ = some (.string a0_0) ∧ w'.cell? ⟨gb181, 1, none⟩ = some (.string a0_1) ∧ w'.cell? ⟨gb181, 2, none⟩ = some (.string a0_2) ∧ w'.cell? ⟨gb181, 3, none⟩ = some (.slice A0_3 l0_3.length c0_3) ∧ w'.cell? ⟨gb181, 4, none⟩ = some (.slice A0_4 l0_4.length c0_4) ∧ w'.cell? ⟨gb182, 0, none⟩ = some (.string a1_0) ∧ w'.cell? ⟨gb182, 1, none⟩ = some (.string a1_1) ∧ w'.cell? ⟨gb182, 2, none⟩ = some (.string a1_2) ∧ w'.cell? ⟨gb182, 3, none⟩ = some (.slice A1_3 l1_3.length c1_3) ∧ w'.cell? ⟨gb182, 4, none⟩ = some (.slice A1_4 l1_4.length c1_4)) ∧ (Kd.R k91 91 w' w.heap.size (fun k_ => some k_ ≠ (s_.2.2.1 : Value).ownBlock) s_.1 t186) ∧ (Kd.R k25 25 w' w.heap.size (fun k_ => some k_ ≠ (s_.1 : Value).ownBlock ∧ some k_ ≠ (s_.2.2.1 : Value).ownBlock ∧ some k_ ≠ (s_.2.2.2 : Value).ownBlock ∧ k_ ≠ gb181 ∧ k_ ≠ gb182) s_.2.1 t189) ∧ (Kd.R k91 91 w' w.heap.size (fun k_ => some k_ ≠ (s_.1 : Value).ownBlock) s_.2.2.1 t195) ∧ (Kd.R k25 25 w' w.heap.size (fun k_ => some k_ ≠ (s_.1 : Value).ownBlock ∧ some k_ ≠ (s_.2.1 : Value).ownBlock ∧ some k_ ≠ (s_.2.2.1 : Value).ownBlock ∧ k_ ≠ gb181 ∧ k_ ≠ gb182) s_.2.2.2 t198) ∧ (w'.heap[gb181]? = some (.cells #[.string a0_0, .string a0_1, .string a0_2, .slice A0_3 l0_3.length c0_3, .slice A0_4 l0_4.length c0_4] 25 (0, 0))) ∧ (w'.heap[gb182]? = some (.cells #[.string a1_0, .string a1_1, .string a1_2, .slice A1_3 l1_3.length c1_3, .slice A1_4 l1_4.length c1_4] 25 (0, 0))) ∧ (Below w.heap.size w w')) ?_ ?_
         rotate_left
         ·
          intro hJ1_3
          refine join_ (σ := Value × Value × Nat) 4 #[Y,Y,Y,Z,Y,Z,Z,Z] (fun s_ => [(9, .agg #[.string t183, .string t184, .string t185, s_.1, s_.2.1]), (5, .pointer (some ⟨s_.2.2, 0, none⟩))]) (fun s_ w' => (w'.cell? ⟨gb181, 0, none⟩ = some (.string a0_0) ∧ w'.cell? ⟨gb181, 1, none⟩ = some (.string a0_1) ∧ w'.cell? ⟨gb181, 2, none⟩ = some (.string a0_2) ∧ w'.cell? ⟨gb181, 3, none⟩ = some (.slice A0_3 l0_3.length c0_3) ∧ w'.cell? ⟨gb181, 4, none⟩ = some (.slice A0_4 l0_4.length c0_4) ∧ w'.cell? ⟨gb182, 0, none⟩ = some (.string a1_0) ∧ w'.cell? ⟨gb182, 1, none⟩ = some (.string a1_1) ∧ w'.cell? ⟨gb182, 2, none⟩ = some (.string a1_2) ∧ w'.cell? ⟨gb182, 3, none⟩ = some (.slice A1_3 l1_3.length c1_3) ∧ w'.cell? ⟨gb182, 4, none⟩ = some (.slice A1_4 l1_4.length c1_4)) ∧ (Kd.R k91 91 w' w.heap.size (fun _ => True) s_.1 t186) ∧ (Kd.R k25 25 w' w.heap.size (fun k_ => some k_ ≠ (s_.1 : Value).ownBlock ∧ k_ ≠ gb181 ∧ k_ ≠ gb182 ∧ k_ ≠ s_.2.2) s_.2.1 t189) ∧ (w'.heap[gb181]? = some (.cells #[.string a0_0, .string a0_1, .string a0_2, .slice A0_3 l0_3.length c0_3, .slice A0_4 l0_4.length c0_4] 25 (0, 0))) ∧ (w'.heap[gb182]? = some (.cells #[.string a1_0, .string a1_1, .string a1_2, .slice A1_3 l1_3.length c1_3, .slice A1_4 l1_4.length c1_4] 25 (0, 0))) ∧ (w'.heap[s_.2.2]? = some (.cells #[.string (⟨#[]⟩ : ByteArray), .string (⟨#[]⟩ : ByteArray), .string (⟨#[]⟩ : ByteArray), .slice none 0 0, .slice none 0 0] 25 (0, 0))) ∧ (w.heap.size ≤ s_.2.2) ∧ (w.heap.size ≤ s_.2.2) ∧ (gb181 ≠ s_.2.2) ∧ (s_.2.2 ≠ gb181) ∧ (gb182 ≠ s_.2.2) ∧ (s_.2.2 ≠ gb182) ∧ (Below w.heap.size w w')) ?_ ?_
          rotate_left
          ·
           intro hJ1_4
           refine join_ (σ := Value × Value × Nat) 4 #[Y,Y,Y,Z,Z,Y,Z,Z] (fun s_ => [(9, .agg #[.string t183, .string t184, .string t185, s_.1, s_.2.1]), (6, .pointer (some ⟨s_.2.2, 0, none⟩))]) (fun s_ w' => (w'.cell? ⟨gb181, 0, none⟩ = some (.string a0_0) ∧ w'.cell? ⟨gb181, 1, none⟩ = some (.string a0_1) ∧ w'.cell? ⟨gb181, 2, none⟩ = some (.string a0_2) ∧ w'.cell? ⟨gb181, 3, none⟩ = some (.slice A0_3 l0_3.length c0_3) ∧ w'.cell? ⟨gb181, 4, none⟩ = some (.slice A0_4 l0_4.length c0_4) ∧ w'.cell? ⟨gb182, 0, none⟩ = some (.string a1_0) ∧ w'.cell? ⟨gb182, 1, none⟩ = some (.string a1_1) ∧ w'.cell? ⟨gb182, 2, none⟩ = some (.string a1_2) ∧ w'.cell? ⟨gb182, 3, none⟩ = some (.slice A1_3 l1_3.length c1_3) ∧ w'.cell? ⟨gb182, 4, none⟩ = some (.slice A1_4 l1_4.length c1_4)) ∧ (Kd.R k91 91 w' w.heap.size (fun _ => True) s_.1 t186) ∧ (Kd.R k25 25 w' w.heap.size (fun k_ => some k_ ≠ (s_.1 : Value).ownBlock ∧ k_ ≠ gb181 ∧ k_ ≠ gb182 ∧ k_ ≠ s_.2.2) s_.2.1 t189) ∧ (w'.heap[gb181]? = some (.cells #[.string a0_0, .string a0_1, .string a0_2, .slice A0_3 l0_3.length c0_3, .slice A0_4 l0_4.length c0_4] 25 (0, 0))) ∧ (w'.heap[gb182]? = some (.cells #[.string a1_0, .string a1_1, .string a1_2, .slice A1_3 l1_3.length c1_3, .slice A1_4 l1_4.length c1_4] 25 (0, 0))) ∧ (w'.heap[s_.2.2]? = some (.cells #[.string (⟨#[]⟩ : ByteArray), .string (⟨#[]⟩ : ByteArray), .string (⟨#[]⟩ : ByteArray), .slice none 0 0, .slice none 0 0] 25 (0, 0))) ∧ (w.heap.size ≤ s_.2.2) ∧ (w.heap.size ≤ s_.2.2) ∧ (gb181 ≠ s_.2.2) ∧ (s_.2.2 ≠ gb181) ∧ (gb182 ≠ s_.2.2) ∧ (s_.2.2 ≠ gb182) ∧ (Below w.heap.size w w')) ?_ ?_
           rotate_left
           ·
            intro hJ1_5
            refine join_ (σ := Nat × Nat) 4 #[Y,Z,Y,Z,Y,Y,Z,Z] (fun s_ => [(5, .pointer (some ⟨s_.1, 0, none⟩)), (6, .pointer (some ⟨s_.2, 0, none⟩))]) (fun s_ w' => (w'.cell? ⟨gb181, 0, none⟩ = some (.string a0_0) ∧ w'.cell? ⟨gb181, 1, none⟩ = some (.string a0_1) ∧ w'.cell? ⟨gb181, 2, none⟩ = some (.string a0_2) ∧ w'.cell? ⟨gb181, 3, none⟩ = some (.slice A0_3 l0_3.length c0_3) ∧ w'.cell? ⟨gb181, 4, none⟩ = some (.slice A0_4 l0_4.length c0_4) ∧ w'.cell? ⟨gb182, 0, none⟩ = some (.string a1_0) ∧ w'.cell? ⟨gb182, 1, none⟩ = some (.string a1_1) ∧ w'.cell? ⟨gb182, 2, none⟩ = some (.string a1_2) ∧ w'.cell? ⟨gb182, 3, none⟩ = some (.slice A1_3 l1_3.length c1_3) ∧ w'.cell? ⟨gb182, 4, none⟩ = some (.slice A1_4 l1_4.length c1_4)) ∧ (w'.heap[gb181]? = some (.cells #[.string a0_0, .string a0_1, .string a0_2, .slice A0_3 l0_3.length c0_3, .slice A0_4 l0_4.length c0_4] 25 (0, 0))) ∧ (w'.heap[gb182]? = some (.cells #[.string a1_0, .string a1_1, .string a1_2, .slice A1_3 l1_3.length c1_3, .slice A1_4 l1_4.length c1_4] 25 (0, 0))) ∧ (w'.heap[s_.1]? = some (.cells #[.string (⟨#[]⟩ : ByteArray), .string (⟨#[]⟩ : ByteArray), .string (⟨#[]⟩ : ByteArray), .slice none 0 0, .slice none 0 0] 25 (0, 0))) ∧ (w'.heap[s_.2]? = some (.cells #[.string (⟨#[]⟩ : ByteArray), .string (⟨#[]⟩ : ByteArray), .string (⟨#[]⟩ : ByteArray), .slice none 0 0, .slice none 0 0] 25 (0, 0))) ∧ (w.heap.size ≤ s_.1) ∧ (w.heap.size ≤ s_.1) ∧ (gb181 ≠ s_.1) ∧ (s_.1 ≠ gb181) ∧ (gb182 ≠ s_.1) ∧ (s_.1 ≠ gb182) ∧ (s_.2 ≠ s_.1) ∧ (s_.1 ≠ s_.2) ∧ (w.heap.size ≤ s_.2) ∧ (w.heap.size ≤ s_.2) ∧ (gb181 ≠ s_.2) ∧ (s_.2 ≠ gb181) ∧ (gb182 ≠ s_.2) ∧ (s_.2 ≠ gb182) ∧ (Below w.heap.size w w')) ?_ ?_
            rotate_left
            ·
             intro hJ4_5
             refine join_ (σ := Value × Value) 5 #[Y,Y,Y,Z,Z,Z,Z,Z] (fun s_ => [(9, .agg #[.string t183, .string t184, .string t185, s_.1, s_.2])]) (fun s_ w' => (w'.cell? ⟨gb181, 0, none⟩ = some (.string a0_0) ∧ w'.cell? ⟨gb181, 1, none⟩ = some (.string a0_1) ∧ w'.cell? ⟨gb181, 2, none⟩ = some (.string a0_2) ∧ w'.cell? ⟨gb181, 3, none⟩ = some (.slice A0_3 l0_3.length c0_3) ∧ w'.cell? ⟨gb181, 4, none⟩ = some (.slice A0_4 l0_4.length c0_4) ∧ w'.cell? ⟨gb182, 0, none⟩ = some (.string a1_0) ∧ w'.cell? ⟨gb182, 1, none⟩ = some (.string a1_1) ∧ w'.cell? ⟨gb182, 2, none⟩ = some (.string a1_2) ∧ w'.cell? ⟨gb182, 3, none⟩ = some (.slice A1_3 l1_3.length c1_3) ∧ w'.cell? ⟨gb182, 4, none⟩ = some (.slice A1_4 l1_4.length c1_4)) ∧ (Kd.R k91 91 w' w.heap.size (fun _ => True) s_.1 t186) ∧ (Kd.R k25 25 w' w.heap.size (fun k_ => some k_ ≠ (s_.1 : Value).ownBlock ∧ k_ ≠ gb181 ∧ k_ ≠ gb182) s_.2 t189) ∧ (w'.heap[gb181]? = some (.cells #[.string a0_0, .string a0_1, .string a0_2, .slice A0_3 l0_3.length c0_3, .slice A0_4 l0_4.length c0_4] 25 (0, 0))) ∧ (w'.heap[gb182]? = some (.cells #[.string a1_0, .string a1_1, .string a1_2, .slice A1_3 l1_3.length c1_3, .slice A1_4 l1_4.length c1_4] 25 (0, 0))) ∧ (Below w.heap.size w w')) ?_ ?_
             rotate_left
             ·
              intro hJ1
              refine join_ (σ := Nat) 5 #[Y,Z,Y,Z,Y,Z,Z,Z] (fun s_ => [(5, .pointer (some ⟨s_, 0, none⟩))]) (fun s_ w' => (w'.cell? ⟨gb181, 0, none⟩ = some (.string a0_0) ∧ w'.cell? ⟨gb181, 1, none⟩ = some (.string a0_1) ∧ w'.cell? ⟨gb181, 2, none⟩ = some (.string a0_2) ∧ w'.cell? ⟨gb181, 3, none⟩ = some (.slice A0_3 l0_3.length c0_3) ∧ w'.cell? ⟨gb181, 4, none⟩ = some (.slice A0_4 l0_4.length c0_4) ∧ w'.cell? ⟨gb182, 0, none⟩ = some (.string a1_0) ∧ w'.cell? ⟨gb182, 1, none⟩ = some (.string a1_1) ∧ w'.cell? ⟨gb182, 2, none⟩ = some (.string a1_2) ∧ w'.cell? ⟨gb182, 3, none⟩ = some (.slice A1_3 l1_3.length c1_3) ∧ w'.cell? ⟨gb182, 4, none⟩ = some (.slice A1_4 l1_4.length c1_4)) ∧ (w'.heap[gb181]? = some (.cells #[.string a0_0, .string a0_1, .string a0_2, .slice A0_3 l0_3.length c0_3, .slice A0_4 l0_4.length c0_4] 25 (0, 0))) ∧ (w'.heap[gb182]? = some (.cells #[.string a1_0, .string a1_1, .string a1_2, .slice A1_3 l1_3.length c1_3, .slice A1_4 l1_4.length c1_4] 25 (0, 0))) ∧ (w'.heap[s_]? = some (.cells #[.string (⟨#[]⟩ : ByteArray), .string (⟨#[]⟩ : ByteArray), .string (⟨#[]⟩ : ByteArray), .slice none 0 0, .slice none 0 0] 25 (0, 0))) ∧ (w.heap.size ≤ s_) ∧ (w.heap.size ≤ s_) ∧ (gb181 ≠ s_) ∧ (s_ ≠ gb181) ∧ (gb182 ≠ s_) ∧ (s_ ≠ gb182) ∧ (Below w.heap.size w w')) ?_ ?_
              rotate_left
              ·
               intro hJ4
               refine join_ (σ := Nat) 5 #[Y,Z,Y,Z,Z,Y,Z,Z] (fun s_ => [(6, .pointer (some ⟨s_, 0, none⟩))]) (fun s_ w' => (w'.cell? ⟨gb181, 0, none⟩ = some (.string a0_0) ∧ w'.cell? ⟨gb181, 1, none⟩ = some (.string a0_1) ∧ w'.cell? ⟨gb181, 2, none⟩ = some (.string a0_2) ∧ w'.cell? ⟨gb181, 3, none⟩ = some (.slice A0_3 l0_3.length c0_3) ∧ w'.cell? ⟨gb181, 4, none⟩ = some (.slice A0_4 l0_4.length c0_4) ∧ w'.cell? ⟨gb182, 0, none⟩ = some (.string a1_0) ∧ w'.cell? ⟨gb182, 1, none⟩ = some (.string a1_1) ∧ w'.cell? ⟨gb182, 2, none⟩ = some (.string a1_2) ∧ w'.cell? ⟨gb182, 3, none⟩ = some (.slice A1_3 l1_3.length c1_3) ∧ w'.cell? ⟨gb182, 4, none⟩ = some (.slice A1_4 l1_4.length c1_4)) ∧ (w'.heap[gb181]? = some (.cells #[.string a0_0, .string a0_1, .string a0_2, .slice A0_3 l0_3.length c0_3, .slice A0_4 l0_4.length c0_4] 25 (0, 0))) ∧ (w'.heap[gb182]? = some (.cells #[.string a1_0, .string a1_1, .string a1_2, .slice A1_3 l1_3.length c1_3, .slice A1_4 l1_4.length c1_4] 25 (0, 0))) ∧ (w'.heap[s_]? = some (.cells #[.string (⟨#[]⟩ : ByteArray), .string (⟨#[]⟩ : ByteArray), .string (⟨#[]⟩ : ByteArray), .slice none 0 0, .slice none 0 0] 25 (0, 0))) ∧ (w.heap.size ≤ s_) ∧ (w.heap.size ≤ s_) ∧ (gb181 ≠ s_) ∧ (s_ ≠ gb181) ∧ (gb182 ≠ s_) ∧ (s_ ≠ gb182) ∧ (Below w.heap.size w w')) ?_ ?_
               rotate_left
               ·
                intro hJ5
                refine three_ (i := 1) (j := 4) (k := 5) (Ni := some 9) (Nj := some 5) (Nk := some 6) #[Y,Y,Y,Z,Z,Z,Z,Z] #[Y,Z,Y,Z,Y,Z,Z,Z] #[Y,Z,Y,Z,Z,Y,Z,Z] rfl rfl rfl rfl rfl rfl (three_of HT_.out (by kernel_rfl)) (by decide) (by decide) (by decide) (fun K hK => ?_) (fun K hK => ?_) (fun K hK => ?_)
                ·
                 skip
                 refine goes_ Tryz.func5 (by kernel_rfl) rfl #[.agg #[.string a0_0, .string a0_1, .string a0_2, .slice A0_3 l0_3.length c0_3, .slice A0_4 l0_4.length c0_4]] (by rfl) rfl rfl (by (try simp only [o', p', q']); first | done | rfl | (simp only [r', s']; rfl)) ?_
                 with_reducible refine (fanlightplain_CopyTree.calls k a0_0 a0_1 a0_2 _ _ l0_3 _ _ l0_4 t183 t184 t185 t186 t189 _ ?side1 ?side2 ?side3 ?side4 A3.out).mono ?_
                 (case side1 => exact Kd.eC HR0_3 HB)
                 (case side2 => exact HC0_3.out)
                 (case side3 => exact Kd.eC HR0_4 HB)
                 (case side4 => exact HC0_4.out)
                 rintro e w20 ⟨v187, v190, rfl, ho0, ho1, hb⟩
                 refine ⟨_, rfl, ?_⟩
                 have n0_ := u' (Kd.R_lower ho0 (e' (eH HB)))
                 have n1_ := u' (Kd.R_lower (Kd.R_newB (Kd.R_newB ho1 (g := gb181) (o := .cells #[.string a0_0, .string a0_1, .string a0_2, .slice A0_3 l0_3.length c0_3, .slice A0_4 l0_4.length c0_4] 25 (0, 0)) (eB BK181)) (g := gb182) (o := .cells #[.string a1_0, .string a1_1, .string a1_2, .slice A1_3 l1_3.length c1_3, .slice A1_4 l1_4.length c1_4] 25 (0, 0)) (eB BK182)) (e' (eH HB)))
                 have n2_ := u' (c' (g := gb181) (o := .cells #[.string a0_0, .string a0_1, .string a0_2, .slice A0_3 l0_3.length c0_3, .slice A0_4 l0_4.length c0_4] 25 (0, 0)) (eB BK181) hb)
                 have n3_ := u' (c' (g := gb182) (o := .cells #[.string a1_0, .string a1_1, .string a1_2, .slice A1_3 l1_3.length c1_3, .slice A1_4 l1_4.length c1_4] 25 (0, 0)) (eB BK182) hb)
                 have n4_ := u' (g' (eH HB) hb)
                 clear BK181
                 clear BK182
                 clear HB
                 have HO188 := n0_
                 have HO191 := n1_
                 have BK181 := n2_
                 have BK182 := n3_
                 have HB := n4_
                 clear n0_ n1_ n2_ n3_ n4_
                 (try clear hb)
                 (try clear hb2)
                 (try clear hk)
                 (try clear hi)
                 (try clear ho0)
                 (try clear ho1)
                 refine hK.out _ _ ⟨(b' BK181.out 0).trans rfl, (b' BK181.out 1).trans rfl, (b' BK181.out 2).trans rfl, (b' BK181.out 3).trans rfl, (b' BK181.out 4).trans rfl, (b' BK182.out 0).trans rfl, (b' BK182.out 1).trans rfl, (b' BK182.out 2).trans rfl, (b' BK182.out 3).trans rfl, (b' BK182.out 4).trans rfl⟩ (fun hHeld => ?_)
                 clear hK K
                 refine norm_ (a' := ?_) ?_ ?_
                 rotate_left
                 ·
                  show Act.put _ (some 9) _ = _
                  simp only [Act.put, l', m', n', i64_w, i32_w]
                  rfl
                 exact norm_ (by first | (simp only [putAll, Act.put, l', m', n']; done) | (simp only [putAll, Act.put, l', m', n']; rfl)) (hJ1 (v187, v190) _ ⟨hHeld, (Kd.eR HO188), (Kd.kR (f' HO191.out (fun _ hk => ⟨hk.1.1, ⟨hk.1.2, hk.2⟩⟩))), (eB BK181), (eB BK182), (eH HB)⟩)
                ·
                 skip
                 refine box_step ?hg (N := 5) ?hd (cs := #[.string (⟨#[]⟩ : ByteArray), .string (⟨#[]⟩ : ByteArray), .string (⟨#[]⟩ : ByteArray), .slice none 0 0, .slice none 0 0]) (t := 25) ?hr ?_; (case hd => rfl); (case hg => rfl); (case hr => first | (go_simp; done) | (go_simp; rfl))
                 intro gb201 hg w20 hbox hb
                 have n0_ := u' (c' (g := gb181) (o := .cells #[.string a0_0, .string a0_1, .string a0_2, .slice A0_3 l0_3.length c0_3, .slice A0_4 l0_4.length c0_4] 25 (0, 0)) (eB BK181) hb)
                 have n1_ := u' (c' (g := gb182) (o := .cells #[.string a1_0, .string a1_1, .string a1_2, .slice A1_3 l1_3.length c1_3, .slice A1_4 l1_4.length c1_4] 25 (0, 0)) (eB BK182) hb)
                 have n2_ := u' (g' (eH HB) hb)
                 have n3_ := u' (hbox)
                 have n4_ := u' ((by rw [hg]; exact (e' (eH HB)) : w.heap.size ≤ gb201))
                 have n5_ := u' ((by rw [hg]; exact (e' (eH HB)) : w.heap.size ≤ gb201))
                 have n6_ := u' ((by rw [hg]; exact Nat.ne_of_lt (blk_lt (g := gb181) (o := .cells #[.string a0_0, .string a0_1, .string a0_2, .slice A0_3 l0_3.length c0_3, .slice A0_4 l0_4.length c0_4] 25 (0, 0)) (eB BK181)) : gb181 ≠ gb201))
                 have n7_ := u' ((by rw [hg]; exact Nat.ne_of_gt (blk_lt (g := gb181) (o := .cells #[.string a0_0, .string a0_1, .string a0_2, .slice A0_3 l0_3.length c0_3, .slice A0_4 l0_4.length c0_4] 25 (0, 0)) (eB BK181)) : gb201 ≠ gb181))
                 have n8_ := u' ((by rw [hg]; exact Nat.ne_of_lt (blk_lt (g := gb182) (o := .cells #[.string a1_0, .string a1_1, .string a1_2, .slice A1_3 l1_3.length c1_3, .slice A1_4 l1_4.length c1_4] 25 (0, 0)) (eB BK182)) : gb182 ≠ gb201))
                 have n9_ := u' ((by rw [hg]; exact Nat.ne_of_gt (blk_lt (g := gb182) (o := .cells #[.string a1_0, .string a1_1, .string a1_2, .slice A1_3 l1_3.length c1_3, .slice A1_4 l1_4.length c1_4] 25 (0, 0)) (eB BK182)) : gb201 ≠ gb182))
                 clear BK181
                 clear BK182
                 clear HB
                 have BK181 := n0_
                 have BK182 := n1_
                 have HB := n2_
                 have BK201 := n3_
                 have GW201 := n4_
                 have GE201 := n5_
                 have NB181_201 := n6_
                 have NB201_181 := n7_
                 have NB182_201 := n8_
                 have NB201_182 := n9_
                 clear n0_ n1_ n2_ n3_ n4_ n5_ n6_ n7_ n8_ n9_
                 clear hb hbox hg
                 refine hK.out _ _ ⟨(b' BK181.out 0).trans rfl, (b' BK181.out 1).trans rfl, (b' BK181.out 2).trans rfl, (b' BK181.out 3).trans rfl, (b' BK181.out 4).trans rfl, (b' BK182.out 0).trans rfl, (b' BK182.out 1).trans rfl, (b' BK182.out 2).trans rfl, (b' BK182.out 3).trans rfl, (b' BK182.out 4).trans rfl⟩ (fun hHeld => ?_)
                 clear hK K
                 refine norm_ (a' := ?_) ?_ ?_
                 rotate_left
                 ·
                  show Act.put _ (some 5) _ = _
                  simp only [Act.put, l', m', n', i64_w, i32_w]
                  rfl
                 exact norm_ (by first | (simp only [putAll, Act.put, l', m', n']; done) | (simp only [putAll, Act.put, l', m', n']; rfl)) (hJ4 (gb201) _ ⟨hHeld, (eB BK181), (eB BK182), (eB BK201), GW201.out, GE201.out, NB181_201.out, NB201_181.out, NB182_201.out, NB201_182.out, (eH HB)⟩)
                ·
                 skip
                 refine box_step ?hg (N := 6) ?hd (cs := #[.string (⟨#[]⟩ : ByteArray), .string (⟨#[]⟩ : ByteArray), .string (⟨#[]⟩ : ByteArray), .slice none 0 0, .slice none 0 0]) (t := 25) ?hr ?_; (case hd => rfl); (case hg => rfl); (case hr => first | (go_simp; done) | (go_simp; rfl))
                 intro gb202 hg w20 hbox hb
                 have n0_ := u' (c' (g := gb181) (o := .cells #[.string a0_0, .string a0_1, .string a0_2, .slice A0_3 l0_3.length c0_3, .slice A0_4 l0_4.length c0_4] 25 (0, 0)) (eB BK181) hb)
                 have n1_ := u' (c' (g := gb182) (o := .cells #[.string a1_0, .string a1_1, .string a1_2, .slice A1_3 l1_3.length c1_3, .slice A1_4 l1_4.length c1_4] 25 (0, 0)) (eB BK182) hb)
                 have n2_ := u' (g' (eH HB) hb)
                 have n3_ := u' (hbox)
                 have n4_ := u' ((by rw [hg]; exact (e' (eH HB)) : w.heap.size ≤ gb202))
                 have n5_ := u' ((by rw [hg]; exact (e' (eH HB)) : w.heap.size ≤ gb202))
                 have n6_ := u' ((by rw [hg]; exact Nat.ne_of_lt (blk_lt (g := gb181) (o := .cells #[.string a0_0, .string a0_1, .string a0_2, .slice A0_3 l0_3.length c0_3, .slice A0_4 l0_4.length c0_4] 25 (0, 0)) (eB BK181)) : gb181 ≠ gb202))
                 have n7_ := u' ((by rw [hg]; exact Nat.ne_of_gt (blk_lt (g := gb181) (o := .cells #[.string a0_0, .string a0_1, .string a0_2, .slice A0_3 l0_3.length c0_3, .slice A0_4 l0_4.length c0_4] 25 (0, 0)) (eB BK181)) : gb202 ≠ gb181))
                 have n8_ := u' ((by rw [hg]; exact Nat.ne_of_lt (blk_lt (g := gb182) (o := .cells #[.string a1_0, .string a1_1, .string a1_2, .slice A1_3 l1_3.length c1_3, .slice A1_4 l1_4.length c1_4] 25 (0, 0)) (eB BK182)) : gb182 ≠ gb202))
                 have n9_ := u' ((by rw [hg]; exact Nat.ne_of_gt (blk_lt (g := gb182) (o := .cells #[.string a1_0, .string a1_1, .string a1_2, .slice A1_3 l1_3.length c1_3, .slice A1_4 l1_4.length c1_4] 25 (0, 0)) (eB BK182)) : gb202 ≠ gb182))
                 clear BK181
                 clear BK182
                 clear HB
                 have BK181 := n0_
                 have BK182 := n1_
                 have HB := n2_
                 have BK202 := n3_
                 have GW202 := n4_
                 have GE202 := n5_
                 have NB181_202 := n6_
                 have NB202_181 := n7_
                 have NB182_202 := n8_
                 have NB202_182 := n9_
                 clear n0_ n1_ n2_ n3_ n4_ n5_ n6_ n7_ n8_ n9_
                 clear hb hbox hg
                 refine hK.out _ _ ⟨(b' BK181.out 0).trans rfl, (b' BK181.out 1).trans rfl, (b' BK181.out 2).trans rfl, (b' BK181.out 3).trans rfl, (b' BK181.out 4).trans rfl, (b' BK182.out 0).trans rfl, (b' BK182.out 1).trans rfl, (b' BK182.out 2).trans rfl, (b' BK182.out 3).trans rfl, (b' BK182.out 4).trans rfl⟩ (fun hHeld => ?_)
                 clear hK K
                 refine norm_ (a' := ?_) ?_ ?_
                 rotate_left
                 ·
                  show Act.put _ (some 6) _ = _
                  simp only [Act.put, l', m', n', i64_w, i32_w]
                  rfl
                 exact norm_ (by first | (simp only [putAll, Act.put, l', m', n']; done) | (simp only [putAll, Act.put, l', m', n']; rfl)) (hJ5 (gb202) _ ⟨hHeld, (eB BK181), (eB BK182), (eB BK202), GW202.out, GE202.out, NB181_202.out, NB202_181.out, NB182_202.out, NB202_182.out, (eH HB)⟩)
               ·
                skip
                rintro gb202 w21 ⟨hS_, h0_, h1_, h2_, h3_, h4_, h5_, h6_, h7_, h8_, h9_⟩
                have n0_ : Aside0 (w21.heap[gb181]? = some (.cells #[.string a0_0, .string a0_1, .string a0_2, .slice A0_3 l0_3.length c0_3, .slice A0_4 l0_4.length c0_4] 25 (0, 0))) := ⟨h0_⟩
                have n1_ : Aside0 (w21.heap[gb182]? = some (.cells #[.string a1_0, .string a1_1, .string a1_2, .slice A1_3 l1_3.length c1_3, .slice A1_4 l1_4.length c1_4] 25 (0, 0))) := ⟨h1_⟩
                have n2_ : Aside0 (w21.heap[gb202]? = some (.cells #[.string (⟨#[]⟩ : ByteArray), .string (⟨#[]⟩ : ByteArray), .string (⟨#[]⟩ : ByteArray), .slice none 0 0, .slice none 0 0] 25 (0, 0))) := ⟨h2_⟩
                have n3_ : Aside0 (w.heap.size ≤ gb202) := ⟨h3_⟩
                have n4_ : Aside0 (w.heap.size ≤ gb202) := ⟨h4_⟩
                have n5_ : Aside0 (gb181 ≠ gb202) := ⟨h5_⟩
                have n6_ : Aside0 (gb202 ≠ gb181) := ⟨h6_⟩
                have n7_ : Aside0 (gb182 ≠ gb202) := ⟨h7_⟩
                have n8_ : Aside0 (gb202 ≠ gb182) := ⟨h8_⟩
                have n9_ : Aside0 (Below w.heap.size w w21) := ⟨h9_⟩
                clear BK181
                clear BK182
                clear HB
                clear h0_ h1_ h2_ h3_ h4_ h5_ h6_ h7_ h8_ h9_
                have BK181 := n0_
                have BK182 := n1_
                have BK202 := n2_
                have GW202 := n3_
                have GE202 := n4_
                have NB181_202 := n5_
                have NB202_181 := n6_
                have NB182_202 := n7_
                have NB202_182 := n8_
                have HB := n9_
                clear n0_ n1_ n2_ n3_ n4_ n5_ n6_ n7_ n8_ n9_
                have hHeld : w21.cell? ⟨gb181, 0, none⟩ = some (.string a0_0) ∧ w21.cell? ⟨gb181, 1, none⟩ = some (.string a0_1) ∧ w21.cell? ⟨gb181, 2, none⟩ = some (.string a0_2) ∧ w21.cell? ⟨gb181, 3, none⟩ = some (.slice A0_3 l0_3.length c0_3) ∧ w21.cell? ⟨gb181, 4, none⟩ = some (.slice A0_4 l0_4.length c0_4) ∧ w21.cell? ⟨gb182, 0, none⟩ = some (.string a1_0) ∧ w21.cell? ⟨gb182, 1, none⟩ = some (.string a1_1) ∧ w21.cell? ⟨gb182, 2, none⟩ = some (.string a1_2) ∧ w21.cell? ⟨gb182, 3, none⟩ = some (.slice A1_3 l1_3.length c1_3) ∧ w21.cell? ⟨gb182, 4, none⟩ = some (.slice A1_4 l1_4.length c1_4) := hS_
                refine norm_ (a' := ?_) ?_ ?_
                rotate_left
                ·
                 simp only [putAll, Act.put, l', m', n']
                 rfl
                refine two_ (i := 1) (j := 4) (Ni := some 9) (Nj := some 5) #[Y,Y,Y,Z,Z,Y,Z,Z] #[Y,Z,Y,Z,Y,Y,Z,Z] rfl rfl rfl rfl (two_of HT_.out (by kernel_rfl)) (by decide) (by decide) (fun K hK => ?_) (fun K hK => ?_)
                ·
                 skip
                 refine goes_ Tryz.func5 (by kernel_rfl) rfl #[.agg #[.string a0_0, .string a0_1, .string a0_2, .slice A0_3 l0_3.length c0_3, .slice A0_4 l0_4.length c0_4]] (by rfl) rfl rfl (by (try simp only [o', p', q']); first | done | rfl | (simp only [r', s']; rfl)) ?_
                 with_reducible refine (fanlightplain_CopyTree.calls k a0_0 a0_1 a0_2 _ _ l0_3 _ _ l0_4 t183 t184 t185 t186 t189 _ ?side1 ?side2 ?side3 ?side4 A3.out).mono ?_
                 (case side1 => exact Kd.eC HR0_3 HB)
                 (case side2 => exact HC0_3.out)
                 (case side3 => exact Kd.eC HR0_4 HB)
                 (case side4 => exact HC0_4.out)
                 rintro e w22 ⟨v187, v190, rfl, ho0, ho1, hb⟩
                 refine ⟨_, rfl, ?_⟩
                 have n0_ := u' (Kd.R_lower ho0 (e' (eH HB)))
                 have n1_ := u' (Kd.R_lower (Kd.R_newB (Kd.R_newB (Kd.R_newB ho1 (g := gb181) (o := .cells #[.string a0_0, .string a0_1, .string a0_2, .slice A0_3 l0_3.length c0_3, .slice A0_4 l0_4.length c0_4] 25 (0, 0)) (eB BK181)) (g := gb182) (o := .cells #[.string a1_0, .string a1_1, .string a1_2, .slice A1_3 l1_3.length c1_3, .slice A1_4 l1_4.length c1_4] 25 (0, 0)) (eB BK182)) (g := gb202) (o := .cells #[.string (⟨#[]⟩ : ByteArray), .string (⟨#[]⟩ : ByteArray), .string (⟨#[]⟩ : ByteArray), .slice none 0 0, .slice none 0 0] 25 (0, 0)) (eB BK202)) (e' (eH HB)))
                 have n2_ := u' (c' (g := gb181) (o := .cells #[.string a0_0, .string a0_1, .string a0_2, .slice A0_3 l0_3.length c0_3, .slice A0_4 l0_4.length c0_4] 25 (0, 0)) (eB BK181) hb)
                 have n3_ := u' (c' (g := gb182) (o := .cells #[.string a1_0, .string a1_1, .string a1_2, .slice A1_3 l1_3.length c1_3, .slice A1_4 l1_4.length c1_4] 25 (0, 0)) (eB BK182) hb)
                 have n4_ := u' (c' (g := gb202) (o := .cells #[.string (⟨#[]⟩ : ByteArray), .string (⟨#[]⟩ : ByteArray), .string (⟨#[]⟩ : ByteArray), .slice none 0 0, .slice none 0 0] 25 (0, 0)) (eB BK202) hb)
                 have n5_ := u' (g' (eH HB) hb)
                 clear BK181
                 clear BK182
                 clear BK202
                 clear HB
                 have HO188 := n0_
                 have HO191 := n1_
                 have BK181 := n2_
                 have BK182 := n3_
                 have BK202 := n4_
                 have HB := n5_
                 clear n0_ n1_ n2_ n3_ n4_ n5_
                 (try clear hb)
                 (try clear hb2)
                 (try clear hk)
                 (try clear hi)
                 (try clear ho0)
                 (try clear ho1)
                 refine hK.out _ _ ⟨(b' BK181.out 0).trans rfl, (b' BK181.out 1).trans rfl, (b' BK181.out 2).trans rfl, (b' BK181.out 3).trans rfl, (b' BK181.out 4).trans rfl, (b' BK182.out 0).trans rfl, (b' BK182.out 1).trans rfl, (b' BK182.out 2).trans rfl, (b' BK182.out 3).trans rfl, (b' BK182.out 4).trans rfl⟩ (fun hHeld => ?_)
                 clear hK K
                 refine norm_ (a' := ?_) ?_ ?_
                 rotate_left
                 ·
                  show Act.put _ (some 9) _ = _
                  simp only [Act.put, l', m', n', i64_w, i32_w]
                  rfl
                 exact norm_ (by first | (simp only [putAll, Act.put, l', m', n']; done) | (simp only [putAll, Act.put, l', m', n']; rfl)) (hJ1_5 (v187, v190, gb202) _ ⟨hHeld, (Kd.eR HO188), (Kd.kR (f' HO191.out (fun _ hk => ⟨hk.1.1.1, ⟨hk.1.1.2, ⟨hk.1.2, hk.2⟩⟩⟩))), (eB BK181), (eB BK182), (eB BK202), GW202.out, GE202.out, NB181_202.out, NB202_181.out, NB182_202.out, NB202_182.out, (eH HB)⟩)
                ·
                 skip
                 refine box_step ?hg (N := 5) ?hd (cs := #[.string (⟨#[]⟩ : ByteArray), .string (⟨#[]⟩ : ByteArray), .string (⟨#[]⟩ : ByteArray), .slice none 0 0, .slice none 0 0]) (t := 25) ?hr ?_; (case hd => rfl); (case hg => rfl); (case hr => first | (go_simp; done) | (go_simp; rfl))
                 intro gb201 hg w22 hbox hb
                 have n0_ := u' (c' (g := gb181) (o := .cells #[.string a0_0, .string a0_1, .string a0_2, .slice A0_3 l0_3.length c0_3, .slice A0_4 l0_4.length c0_4] 25 (0, 0)) (eB BK181) hb)
                 have n1_ := u' (c' (g := gb182) (o := .cells #[.string a1_0, .string a1_1, .string a1_2, .slice A1_3 l1_3.length c1_3, .slice A1_4 l1_4.length c1_4] 25 (0, 0)) (eB BK182) hb)
                 have n2_ := u' (c' (g := gb202) (o := .cells #[.string (⟨#[]⟩ : ByteArray), .string (⟨#[]⟩ : ByteArray), .string (⟨#[]⟩ : ByteArray), .slice none 0 0, .slice none 0 0] 25 (0, 0)) (eB BK202) hb)
                 have n3_ := u' (g' (eH HB) hb)
                 have n4_ := u' (hbox)
                 have n5_ := u' ((by rw [hg]; exact (e' (eH HB)) : w.heap.size ≤ gb201))
                 have n6_ := u' ((by rw [hg]; exact (e' (eH HB)) : w.heap.size ≤ gb201))
                 have n7_ := u' ((by rw [hg]; exact Nat.ne_of_lt (blk_lt (g := gb181) (o := .cells #[.string a0_0, .string a0_1, .string a0_2, .slice A0_3 l0_3.length c0_3, .slice A0_4 l0_4.length c0_4] 25 (0, 0)) (eB BK181)) : gb181 ≠ gb201))
                 have n8_ := u' ((by rw [hg]; exact Nat.ne_of_gt (blk_lt (g := gb181) (o := .cells #[.string a0_0, .string a0_1, .string a0_2, .slice A0_3 l0_3.length c0_3, .slice A0_4 l0_4.length c0_4] 25 (0, 0)) (eB BK181)) : gb201 ≠ gb181))
                 have n9_ := u' ((by rw [hg]; exact Nat.ne_of_lt (blk_lt (g := gb182) (o := .cells #[.string a1_0, .string a1_1, .string a1_2, .slice A1_3 l1_3.length c1_3, .slice A1_4 l1_4.length c1_4] 25 (0, 0)) (eB BK182)) : gb182 ≠ gb201))
                 have n10_ := u' ((by rw [hg]; exact Nat.ne_of_gt (blk_lt (g := gb182) (o := .cells #[.string a1_0, .string a1_1, .string a1_2, .slice A1_3 l1_3.length c1_3, .slice A1_4 l1_4.length c1_4] 25 (0, 0)) (eB BK182)) : gb201 ≠ gb182))
                 have n11_ := u' ((by rw [hg]; exact Nat.ne_of_lt (blk_lt (g := gb202) (o := .cells #[.string (⟨#[]⟩ : ByteArray), .string (⟨#[]⟩ : ByteArray), .string (⟨#[]⟩ : ByteArray), .slice none 0 0, .slice none 0 0] 25 (0, 0)) (eB BK202)) : gb202 ≠ gb201))
                 have n12_ := u' ((by rw [hg]; exact Nat.ne_of_gt (blk_lt (g := gb202) (o := .cells #[.string (⟨#[]⟩ : ByteArray), .string (⟨#[]⟩ : ByteArray), .string (⟨#[]⟩ : ByteArray), .slice none 0 0, .slice none 0 0] 25 (0, 0)) (eB BK202)) : gb201 ≠ gb202))
                 clear BK181
                 clear BK182
                 clear BK202
                 clear HB
                 have BK181 := n0_
                 have BK182 := n1_
                 have BK202 := n2_
                 have HB := n3_
                 have BK201 := n4_
                 have GW201 := n5_
                 have GE201 := n6_
                 have NB181_201 := n7_
                 have NB201_181 := n8_
                 have NB182_201 := n9_
                 have NB201_182 := n10_
                 have NB202_201 := n11_
                 have NB201_202 := n12_
                 clear n0_ n1_ n2_ n3_ n4_ n5_ n6_ n7_ n8_ n9_ n10_ n11_ n12_
                 clear hb hbox hg
                 refine hK.out _ _ ⟨(b' BK181.out 0).trans rfl, (b' BK181.out 1).trans rfl, (b' BK181.out 2).trans rfl, (b' BK181.out 3).trans rfl, (b' BK181.out 4).trans rfl, (b' BK182.out 0).trans rfl, (b' BK182.out 1).trans rfl, (b' BK182.out 2).trans rfl, (b' BK182.out 3).trans rfl, (b' BK182.out 4).trans rfl⟩ (fun hHeld => ?_)
                 clear hK K
                 refine norm_ (a' := ?_) ?_ ?_
                 rotate_left
                 ·
                  show Act.put _ (some 5) _ = _
                  simp only [Act.put, l', m', n', i64_w, i32_w]
                  rfl
                 exact norm_ (by first | (simp only [putAll, Act.put, l', m', n']; done) | (simp only [putAll, Act.put, l', m', n']; rfl)) (hJ4_5 (gb201, gb202) _ ⟨hHeld, (eB BK181), (eB BK182), (eB BK201), (eB BK202), GW201.out, GE201.out, NB181_201.out, NB201_181.out, NB182_201.out, NB201_182.out, NB202_201.out, NB201_202.out, GW202.out, GE202.out, NB181_202.out, NB202_181.out, NB182_202.out, NB202_182.out, (eH HB)⟩)
              ·
               skip
               rintro gb201 w21 ⟨hS_, h0_, h1_, h2_, h3_, h4_, h5_, h6_, h7_, h8_, h9_⟩
               have n0_ : Aside0 (w21.heap[gb181]? = some (.cells #[.string a0_0, .string a0_1, .string a0_2, .slice A0_3 l0_3.length c0_3, .slice A0_4 l0_4.length c0_4] 25 (0, 0))) := ⟨h0_⟩
               have n1_ : Aside0 (w21.heap[gb182]? = some (.cells #[.string a1_0, .string a1_1, .string a1_2, .slice A1_3 l1_3.length c1_3, .slice A1_4 l1_4.length c1_4] 25 (0, 0))) := ⟨h1_⟩
               have n2_ : Aside0 (w21.heap[gb201]? = some (.cells #[.string (⟨#[]⟩ : ByteArray), .string (⟨#[]⟩ : ByteArray), .string (⟨#[]⟩ : ByteArray), .slice none 0 0, .slice none 0 0] 25 (0, 0))) := ⟨h2_⟩
               have n3_ : Aside0 (w.heap.size ≤ gb201) := ⟨h3_⟩
               have n4_ : Aside0 (w.heap.size ≤ gb201) := ⟨h4_⟩
               have n5_ : Aside0 (gb181 ≠ gb201) := ⟨h5_⟩
               have n6_ : Aside0 (gb201 ≠ gb181) := ⟨h6_⟩
               have n7_ : Aside0 (gb182 ≠ gb201) := ⟨h7_⟩
               have n8_ : Aside0 (gb201 ≠ gb182) := ⟨h8_⟩
               have n9_ : Aside0 (Below w.heap.size w w21) := ⟨h9_⟩
               clear BK181
               clear BK182
               clear HB
               clear h0_ h1_ h2_ h3_ h4_ h5_ h6_ h7_ h8_ h9_
               have BK181 := n0_
               have BK182 := n1_
               have BK201 := n2_
               have GW201 := n3_
               have GE201 := n4_
               have NB181_201 := n5_
               have NB201_181 := n6_
               have NB182_201 := n7_
               have NB201_182 := n8_
               have HB := n9_
               clear n0_ n1_ n2_ n3_ n4_ n5_ n6_ n7_ n8_ n9_
               have hHeld : w21.cell? ⟨gb181, 0, none⟩ = some (.string a0_0) ∧ w21.cell? ⟨gb181, 1, none⟩ = some (.string a0_1) ∧ w21.cell? ⟨gb181, 2, none⟩ = some (.string a0_2) ∧ w21.cell? ⟨gb181, 3, none⟩ = some (.slice A0_3 l0_3.length c0_3) ∧ w21.cell? ⟨gb181, 4, none⟩ = some (.slice A0_4 l0_4.length c0_4) ∧ w21.cell? ⟨gb182, 0, none⟩ = some (.string a1_0) ∧ w21.cell? ⟨gb182, 1, none⟩ = some (.string a1_1) ∧ w21.cell? ⟨gb182, 2, none⟩ = some (.string a1_2) ∧ w21.cell? ⟨gb182, 3, none⟩ = some (.slice A1_3 l1_3.length c1_3) ∧ w21.cell? ⟨gb182, 4, none⟩ = some (.slice A1_4 l1_4.length c1_4) := hS_
               refine norm_ (a' := ?_) ?_ ?_
               rotate_left
               ·
                simp only [putAll, Act.put, l', m', n']
                rfl
               refine two_ (i := 1) (j := 5) (Ni := some 9) (Nj := some 6) #[Y,Y,Y,Z,Y,Z,Z,Z] #[Y,Z,Y,Z,Y,Y,Z,Z] rfl rfl rfl rfl (two_of HT_.out (by kernel_rfl)) (by decide) (by decide) (fun K hK => ?_) (fun K hK => ?_)
               ·
                skip
                refine goes_ Tryz.func5 (by kernel_rfl) rfl #[.agg #[.string a0_0, .string a0_1, .string a0_2, .slice A0_3 l0_3.length c0_3, .slice A0_4 l0_4.length c0_4]] (by rfl) rfl rfl (by (try simp only [o', p', q']); first | done | rfl | (simp only [r', s']; rfl)) ?_
                with_reducible refine (fanlightplain_CopyTree.calls k a0_0 a0_1 a0_2 _ _ l0_3 _ _ l0_4 t183 t184 t185 t186 t189 _ ?side1 ?side2 ?side3 ?side4 A3.out).mono ?_
                (case side1 => exact Kd.eC HR0_3 HB)
                (case side2 => exact HC0_3.out)
                (case side3 => exact Kd.eC HR0_4 HB)
                (case side4 => exact HC0_4.out)
                rintro e w22 ⟨v187, v190, rfl, ho0, ho1, hb⟩
                refine ⟨_, rfl, ?_⟩
                have n0_ := u' (Kd.R_lower ho0 (e' (eH HB)))
                have n1_ := u' (Kd.R_lower (Kd.R_newB (Kd.R_newB (Kd.R_newB ho1 (g := gb181) (o := .cells #[.string a0_0, .string a0_1, .string a0_2, .slice A0_3 l0_3.length c0_3, .slice A0_4 l0_4.length c0_4] 25 (0, 0)) (eB BK181)) (g := gb182) (o := .cells #[.string a1_0, .string a1_1, .string a1_2, .slice A1_3 l1_3.length c1_3, .slice A1_4 l1_4.length c1_4] 25 (0, 0)) (eB BK182)) (g := gb201) (o := .cells #[.string (⟨#[]⟩ : ByteArray), .string (⟨#[]⟩ : ByteArray), .string (⟨#[]⟩ : ByteArray), .slice none 0 0, .slice none 0 0] 25 (0, 0)) (eB BK201)) (e' (eH HB)))
                have n2_ := u' (c' (g := gb181) (o := .cells #[.string a0_0, .string a0_1, .string a0_2, .slice A0_3 l0_3.length c0_3, .slice A0_4 l0_4.length c0_4] 25 (0, 0)) (eB BK181) hb)
                have n3_ := u' (c' (g := gb182) (o := .cells #[.string a1_0, .string a1_1, .string a1_2, .slice A1_3 l1_3.length c1_3, .slice A1_4 l1_4.length c1_4] 25 (0, 0)) (eB BK182) hb)
                have n4_ := u' (c' (g := gb201) (o := .cells #[.string (⟨#[]⟩ : ByteArray), .string (⟨#[]⟩ : ByteArray), .string (⟨#[]⟩ : ByteArray), .slice none 0 0, .slice none 0 0] 25 (0, 0)) (eB BK201) hb)
                have n5_ := u' (g' (eH HB) hb)
                clear BK181
                clear BK182
                clear BK201
                clear HB
                have HO188 := n0_
                have HO191 := n1_
                have BK181 := n2_
                have BK182 := n3_
                have BK201 := n4_
                have HB := n5_
                clear n0_ n1_ n2_ n3_ n4_ n5_
                (try clear hb)
                (try clear hb2)
                (try clear hk)
                (try clear hi)
                (try clear ho0)
                (try clear ho1)
                refine hK.out _ _ ⟨(b' BK181.out 0).trans rfl, (b' BK181.out 1).trans rfl, (b' BK181.out 2).trans rfl, (b' BK181.out 3).trans rfl, (b' BK181.out 4).trans rfl, (b' BK182.out 0).trans rfl, (b' BK182.out 1).trans rfl, (b' BK182.out 2).trans rfl, (b' BK182.out 3).trans rfl, (b' BK182.out 4).trans rfl⟩ (fun hHeld => ?_)
                clear hK K
                refine norm_ (a' := ?_) ?_ ?_
                rotate_left
                ·
                 show Act.put _ (some 9) _ = _
                 simp only [Act.put, l', m', n', i64_w, i32_w]
                 rfl
                exact norm_ (by first | (simp only [putAll, Act.put, l', m', n']; done) | (simp only [putAll, Act.put, l', m', n']; rfl)) (hJ1_4 (v187, v190, gb201) _ ⟨hHeld, (Kd.eR HO188), (Kd.kR (f' HO191.out (fun _ hk => ⟨hk.1.1.1, ⟨hk.1.1.2, ⟨hk.1.2, hk.2⟩⟩⟩))), (eB BK181), (eB BK182), (eB BK201), GW201.out, GE201.out, NB181_201.out, NB201_181.out, NB182_201.out, NB201_182.out, (eH HB)⟩)
               ·
                skip
                refine box_step ?hg (N := 6) ?hd (cs := #[.string (⟨#[]⟩ : ByteArray), .string (⟨#[]⟩ : ByteArray), .string (⟨#[]⟩ : ByteArray), .slice none 0 0, .slice none 0 0]) (t := 25) ?hr ?_; (case hd => rfl); (case hg => rfl); (case hr => first | (go_simp; done) | (go_simp; rfl))
                intro gb202 hg w22 hbox hb
                have n0_ := u' (c' (g := gb181) (o := .cells #[.string a0_0, .string a0_1, .string a0_2, .slice A0_3 l0_3.length c0_3, .slice A0_4 l0_4.length c0_4] 25 (0, 0)) (eB BK181) hb)
                have n1_ := u' (c' (g := gb182) (o := .cells #[.string a1_0, .string a1_1, .string a1_2, .slice A1_3 l1_3.length c1_3, .slice A1_4 l1_4.length c1_4] 25 (0, 0)) (eB BK182) hb)
                have n2_ := u' (c' (g := gb201) (o := .cells #[.string (⟨#[]⟩ : ByteArray), .string (⟨#[]⟩ : ByteArray), .string (⟨#[]⟩ : ByteArray), .slice none 0 0, .slice none 0 0] 25 (0, 0)) (eB BK201) hb)
                have n3_ := u' (g' (eH HB) hb)
                have n4_ := u' (hbox)
                have n5_ := u' ((by rw [hg]; exact (e' (eH HB)) : w.heap.size ≤ gb202))
                have n6_ := u' ((by rw [hg]; exact (e' (eH HB)) : w.heap.size ≤ gb202))
                have n7_ := u' ((by rw [hg]; exact Nat.ne_of_lt (blk_lt (g := gb181) (o := .cells #[.string a0_0, .string a0_1, .string a0_2, .slice A0_3 l0_3.length c0_3, .slice A0_4 l0_4.length c0_4] 25 (0, 0)) (eB BK181)) : gb181 ≠ gb202))
                have n8_ := u' ((by rw [hg]; exact Nat.ne_of_gt (blk_lt (g := gb181) (o := .cells #[.string a0_0, .string a0_1, .string a0_2, .slice A0_3 l0_3.length c0_3, .slice A0_4 l0_4.length c0_4] 25 (0, 0)) (eB BK181)) : gb202 ≠ gb181))
                have n9_ := u' ((by rw [hg]; exact Nat.ne_of_lt (blk_lt (g := gb182) (o := .cells #[.string a1_0, .string a1_1, .string a1_2, .slice A1_3 l1_3.length c1_3, .slice A1_4 l1_4.length c1_4] 25 (0, 0)) (eB BK182)) : gb182 ≠ gb202))
                have n10_ := u' ((by rw [hg]; exact Nat.ne_of_gt (blk_lt (g := gb182) (o := .cells #[.string a1_0, .string a1_1, .string a1_2, .slice A1_3 l1_3.length c1_3, .slice A1_4 l1_4.length c1_4] 25 (0, 0)) (eB BK182)) : gb202 ≠ gb182))
                have n11_ := u' ((by rw [hg]; exact Nat.ne_of_lt (blk_lt (g := gb201) (o := .cells #[.string (⟨#[]⟩ : ByteArray), .string (⟨#[]⟩ : ByteArray), .string (⟨#[]⟩ : ByteArray), .slice none 0 0, .slice none 0 0] 25 (0, 0)) (eB BK201)) : gb201 ≠ gb202))
                have n12_ := u' ((by rw [hg]; exact Nat.ne_of_gt (blk_lt (g := gb201) (o := .cells #[.string (⟨#[]⟩ : ByteArray), .string (⟨#[]⟩ : ByteArray), .string (⟨#[]⟩ : ByteArray), .slice none 0 0, .slice none 0 0] 25 (0, 0)) (eB BK201)) : gb202 ≠ gb201))
                clear BK181
                clear BK182
                clear BK201
                clear HB
                have BK181 := n0_
                have BK182 := n1_
                have BK201 := n2_
                have HB := n3_
                have BK202 := n4_
                have GW202 := n5_
                have GE202 := n6_
                have NB181_202 := n7_
                have NB202_181 := n8_
                have NB182_202 := n9_
                have NB202_182 := n10_
                have NB201_202 := n11_
                have NB202_201 := n12_
                clear n0_ n1_ n2_ n3_ n4_ n5_ n6_ n7_ n8_ n9_ n10_ n11_ n12_
                clear hb hbox hg
                refine hK.out _ _ ⟨(b' BK181.out 0).trans rfl, (b' BK181.out 1).trans rfl, (b' BK181.out 2).trans rfl, (b' BK181.out 3).trans rfl, (b' BK181.out 4).trans rfl, (b' BK182.out 0).trans rfl, (b' BK182.out 1).trans rfl, (b' BK182.out 2).trans rfl, (b' BK182.out 3).trans rfl, (b' BK182.out 4).trans rfl⟩ (fun hHeld => ?_)
                clear hK K
                refine norm_ (a' := ?_) ?_ ?_
                rotate_left
                ·
                 show Act.put _ (some 6) _ = _
                 simp only [Act.put, l', m', n', i64_w, i32_w]
                 rfl
                exact norm_ (by first | (simp only [putAll, Act.put, l', m', n']; done) | (simp only [putAll, Act.put, l', m', n']; rfl)) (hJ4_5 (gb201, gb202) _ ⟨hHeld, (eB BK181), (eB BK182), (eB BK201), (eB BK202), GW201.out, GE201.out, NB181_201.out, NB201_181.out, NB182_201.out, NB201_182.out, NB202_201.out, NB201_202.out, GW202.out, GE202.out, NB181_202.out, NB202_181.out, NB182_202.out, NB202_182.out, (eH HB)⟩)
             ·
              skip
              rintro ⟨v187, v190⟩ w21 ⟨hS_, h0_, h1_, h2_, h3_, h4_⟩
              have n0_ : Aside0 (Kd.R k91 91 w21 w.heap.size (fun _ => True) v187 t186) := ⟨h0_⟩
              have n1_ : Aside0 (Kd.R k25 25 w21 w.heap.size (fun k_ => some k_ ≠ (v187 : Value).ownBlock ∧ k_ ≠ gb181 ∧ k_ ≠ gb182) v190 t189) := ⟨h1_⟩
              have n2_ : Aside0 (w21.heap[gb181]? = some (.cells #[.string a0_0, .string a0_1, .string a0_2, .slice A0_3 l0_3.length c0_3, .slice A0_4 l0_4.length c0_4] 25 (0, 0))) := ⟨h2_⟩
              have n3_ : Aside0 (w21.heap[gb182]? = some (.cells #[.string a1_0, .string a1_1, .string a1_2, .slice A1_3 l1_3.length c1_3, .slice A1_4 l1_4.length c1_4] 25 (0, 0))) := ⟨h3_⟩
              have n4_ : Aside0 (Below w.heap.size w w21) := ⟨h4_⟩
              clear BK181
              clear BK182
              clear HB
              clear h0_ h1_ h2_ h3_ h4_
              have HO188 := n0_
              have HO191 := n1_
              have BK181 := n2_
              have BK182 := n3_
              have HB := n4_
              clear n0_ n1_ n2_ n3_ n4_
              have hHeld : w21.cell? ⟨gb181, 0, none⟩ = some (.string a0_0) ∧ w21.cell? ⟨gb181, 1, none⟩ = some (.string a0_1) ∧ w21.cell? ⟨gb181, 2, none⟩ = some (.string a0_2) ∧ w21.cell? ⟨gb181, 3, none⟩ = some (.slice A0_3 l0_3.length c0_3) ∧ w21.cell? ⟨gb181, 4, none⟩ = some (.slice A0_4 l0_4.length c0_4) ∧ w21.cell? ⟨gb182, 0, none⟩ = some (.string a1_0) ∧ w21.cell? ⟨gb182, 1, none⟩ = some (.string a1_1) ∧ w21.cell? ⟨gb182, 2, none⟩ = some (.string a1_2) ∧ w21.cell? ⟨gb182, 3, none⟩ = some (.slice A1_3 l1_3.length c1_3) ∧ w21.cell? ⟨gb182, 4, none⟩ = some (.slice A1_4 l1_4.length c1_4) := hS_
              refine norm_ (a' := ?_) ?_ ?_
              rotate_left
              ·
               simp only [putAll, Act.put, l', m', n']
               rfl
              refine three_ (i := 3) (j := 4) (k := 5) (Ni := some 11) (Nj := some 5) (Nk := some 6) #[Y,Y,Y,Y,Z,Z,Z,Z] #[Y,Y,Y,Z,Y,Z,Z,Z] #[Y,Y,Y,Z,Z,Y,Z,Z] rfl rfl rfl rfl rfl rfl (three_of HT_.out (by kernel_rfl)) (by decide) (by decide) (by decide) (fun K hK => ?_) (fun K hK => ?_) (fun K hK => ?_)
              ·
               skip
               refine goes_ Tryz.func5 (by kernel_rfl) rfl #[.agg #[.string a1_0, .string a1_1, .string a1_2, .slice A1_3 l1_3.length c1_3, .slice A1_4 l1_4.length c1_4]] (by rfl) rfl rfl (by (try simp only [o', p', q']); first | done | rfl | (simp only [r', s']; rfl)) ?_
               with_reducible refine (fanlightplain_CopyTree.calls k a1_0 a1_1 a1_2 _ _ l1_3 _ _ l1_4 t192 t193 t194 t195 t198 _ ?side1 ?side2 ?side3 ?side4 A4.out).mono ?_
               (case side1 => exact Kd.eC HR1_3 HB)
               (case side2 => exact HC1_3.out)
               (case side3 => exact Kd.eC HR1_4 HB)
               (case side4 => exact HC1_4.out)
               rintro e w22 ⟨v196, v199, rfl, ho0, ho1, hb⟩
               refine ⟨_, rfl, ?_⟩
               have n0_ := u' (Kd.R_elder' (Kd.eR HO188) (Kd.R_base ho0) hb)
               have n1_ := u' (f' (Kd.R_told (Kd.R_told (Kd.R_old (Kd.eR HO191) hb) (Kd.R_base ho0)) (Kd.R_base ho1)) (fun _ h_ => h_.1))
               have n2_ := u' (Kd.R_lower (Kd.R_new' ho0 (Kd.R_lt (Kd.eR HO188))) (e' (eH HB)))
               have n3_ := u' (Kd.R_lower (Kd.R_newB (Kd.R_newB (Kd.R_new' (Kd.R_new' ho1 (Kd.R_lt (Kd.eR HO188))) (Kd.R_lt (Kd.eR HO191))) (g := gb181) (o := .cells #[.string a0_0, .string a0_1, .string a0_2, .slice A0_3 l0_3.length c0_3, .slice A0_4 l0_4.length c0_4] 25 (0, 0)) (eB BK181)) (g := gb182) (o := .cells #[.string a1_0, .string a1_1, .string a1_2, .slice A1_3 l1_3.length c1_3, .slice A1_4 l1_4.length c1_4] 25 (0, 0)) (eB BK182)) (e' (eH HB)))
               have n4_ := u' (c' (g := gb181) (o := .cells #[.string a0_0, .string a0_1, .string a0_2, .slice A0_3 l0_3.length c0_3, .slice A0_4 l0_4.length c0_4] 25 (0, 0)) (eB BK181) hb)
               have n5_ := u' (c' (g := gb182) (o := .cells #[.string a1_0, .string a1_1, .string a1_2, .slice A1_3 l1_3.length c1_3, .slice A1_4 l1_4.length c1_4] 25 (0, 0)) (eB BK182) hb)
               have n6_ := u' (g' (eH HB) hb)
               clear HO188
               clear HO191
               clear BK181
               clear BK182
               clear HB
               have HO188 := n0_
               have HO191 := n1_
               have HO197 := n2_
               have HO200 := n3_
               have BK181 := n4_
               have BK182 := n5_
               have HB := n6_
               clear n0_ n1_ n2_ n3_ n4_ n5_ n6_
               (try clear hb)
               (try clear hb2)
               (try clear hk)
               (try clear hi)
               (try clear ho0)
               (try clear ho1)
               refine hK.out _ _ ⟨(b' BK181.out 0).trans rfl, (b' BK181.out 1).trans rfl, (b' BK181.out 2).trans rfl, (b' BK181.out 3).trans rfl, (b' BK181.out 4).trans rfl, (b' BK182.out 0).trans rfl, (b' BK182.out 1).trans rfl, (b' BK182.out 2).trans rfl, (b' BK182.out 3).trans rfl, (b' BK182.out 4).trans rfl⟩ (fun hHeld => ?_)
               clear hK K
               refine norm_ (a' := ?_) ?_ ?_
               rotate_left
               ·
                show Act.put _ (some 11) _ = _
                simp only [Act.put, l', m', n', i64_w, i32_w]
                rfl
               exact norm_ (by first | (simp only [putAll, Act.put, l', m', n']; done) | (simp only [putAll, Act.put, l', m', n']; rfl)) (hJ1_3 (v187, v190, v196, v199) _ ⟨hHeld, (Kd.kR (f' HO188.out (fun _ hk => hk.2))), (Kd.kR (f' HO191.out (fun _ hk => ⟨hk.1.1.1, ⟨hk.1.2, ⟨hk.2, ⟨hk.1.1.2.1, hk.1.1.2.2⟩⟩⟩⟩))), (Kd.kR (f' HO197.out (fun _ hk => hk.2))), (Kd.kR (f' HO200.out (fun _ hk => ⟨hk.1.1.1.2, ⟨hk.1.1.2, ⟨hk.1.1.1.1, ⟨hk.1.2, hk.2⟩⟩⟩⟩))), (eB BK181), (eB BK182), (eH HB)⟩)
              ·
               skip
               refine box_step ?hg (N := 5) ?hd (cs := #[.string (⟨#[]⟩ : ByteArray), .string (⟨#[]⟩ : ByteArray), .string (⟨#[]⟩ : ByteArray), .slice none 0 0, .slice none 0 0]) (t := 25) ?hr ?_; (case hd => rfl); (case hg => rfl); (case hr => first | (go_simp; done) | (go_simp; rfl))
               intro gb201 hg w22 hbox hb
               have n0_ := u' (d' (Kd.eR HO188) hb)
               have n1_ := u' (d' (Kd.R_elderB (Kd.eR HO191) gb201 (Nat.le_of_eq hg.symm)) hb)
               have n2_ := u' (c' (g := gb181) (o := .cells #[.string a0_0, .string a0_1, .string a0_2, .slice A0_3 l0_3.length c0_3, .slice A0_4 l0_4.length c0_4] 25 (0, 0)) (eB BK181) hb)
               have n3_ := u' (c' (g := gb182) (o := .cells #[.string a1_0, .string a1_1, .string a1_2, .slice A1_3 l1_3.length c1_3, .slice A1_4 l1_4.length c1_4] 25 (0, 0)) (eB BK182) hb)
               have n4_ := u' (g' (eH HB) hb)
               have n5_ := u' (hbox)
               have n6_ := u' ((by rw [hg]; exact (e' (eH HB)) : w.heap.size ≤ gb201))
               have n7_ := u' ((by rw [hg]; exact (e' (eH HB)) : w.heap.size ≤ gb201))
               have n8_ := u' ((by rw [hg]; exact Nat.ne_of_lt (blk_lt (g := gb181) (o := .cells #[.string a0_0, .string a0_1, .string a0_2, .slice A0_3 l0_3.length c0_3, .slice A0_4 l0_4.length c0_4] 25 (0, 0)) (eB BK181)) : gb181 ≠ gb201))
               have n9_ := u' ((by rw [hg]; exact Nat.ne_of_gt (blk_lt (g := gb181) (o := .cells #[.string a0_0, .string a0_1, .string a0_2, .slice A0_3 l0_3.length c0_3, .slice A0_4 l0_4.length c0_4] 25 (0, 0)) (eB BK181)) : gb201 ≠ gb181))
               have n10_ := u' ((by rw [hg]; exact Nat.ne_of_lt (blk_lt (g := gb182) (o := .cells #[.string a1_0, .string a1_1, .string a1_2, .slice A1_3 l1_3.length c1_3, .slice A1_4 l1_4.length c1_4] 25 (0, 0)) (eB BK182)) : gb182 ≠ gb201))
               have n11_ := u' ((by rw [hg]; exact Nat.ne_of_gt (blk_lt (g := gb182) (o := .cells #[.string a1_0, .string a1_1, .string a1_2, .slice A1_3 l1_3.length c1_3, .slice A1_4 l1_4.length c1_4] 25 (0, 0)) (eB BK182)) : gb201 ≠ gb182))
               clear HO188
               clear HO191
               clear BK181
               clear BK182
               clear HB
               have HO188 := n0_
               have HO191 := n1_
               have BK181 := n2_
               have BK182 := n3_
               have HB := n4_
               have BK201 := n5_
               have GW201 := n6_
               have GE201 := n7_
               have NB181_201 := n8_
               have NB201_181 := n9_
               have NB182_201 := n10_
               have NB201_182 := n11_
               clear n0_ n1_ n2_ n3_ n4_ n5_ n6_ n7_ n8_ n9_ n10_ n11_
               clear hb hbox hg
               refine hK.out _ _ ⟨(b' BK181.out 0).trans rfl, (b' BK181.out 1).trans rfl, (b' BK181.out 2).trans rfl, (b' BK181.out 3).trans rfl, (b' BK181.out 4).trans rfl, (b' BK182.out 0).trans rfl, (b' BK182.out 1).trans rfl, (b' BK182.out 2).trans rfl, (b' BK182.out 3).trans rfl, (b' BK182.out 4).trans rfl⟩ (fun hHeld => ?_)
               clear hK K
               refine norm_ (a' := ?_) ?_ ?_
               rotate_left
               ·
                show Act.put _ (some 5) _ = _
                simp only [Act.put, l', m', n', i64_w, i32_w]
                rfl
               exact norm_ (by first | (simp only [putAll, Act.put, l', m', n']; done) | (simp only [putAll, Act.put, l', m', n']; rfl)) (hJ1_4 (v187, v190, gb201) _ ⟨hHeld, (Kd.eR HO188), (Kd.kR (f' HO191.out (fun _ hk => ⟨hk.1.1, ⟨hk.1.2.1, ⟨hk.1.2.2, hk.2⟩⟩⟩))), (eB BK181), (eB BK182), (eB BK201), GW201.out, GE201.out, NB181_201.out, NB201_181.out, NB182_201.out, NB201_182.out, (eH HB)⟩)
              ·
               skip
               refine box_step ?hg (N := 6) ?hd (cs := #[.string (⟨#[]⟩ : ByteArray), .string (⟨#[]⟩ : ByteArray), .string (⟨#[]⟩ : ByteArray), .slice none 0 0, .slice none 0 0]) (t := 25) ?hr ?_; (case hd => rfl); (case hg => rfl); (case hr => first | (go_simp; done) | (go_simp; rfl))
               intro gb202 hg w22 hbox hb
               have n0_ := u' (d' (Kd.eR HO188) hb)
               have n1_ := u' (d' (Kd.R_elderB (Kd.eR HO191) gb202 (Nat.le_of_eq hg.symm)) hb)
               have n2_ := u' (c' (g := gb181) (o := .cells #[.string a0_0, .string a0_1, .string a0_2, .slice A0_3 l0_3.length c0_3, .slice A0_4 l0_4.length c0_4] 25 (0, 0)) (eB BK181) hb)
               have n3_ := u' (c' (g := gb182) (o := .cells #[.string a1_0, .string a1_1, .string a1_2, .slice A1_3 l1_3.length c1_3, .slice A1_4 l1_4.length c1_4] 25 (0, 0)) (eB BK182) hb)
               have n4_ := u' (g' (eH HB) hb)
               have n5_ := u' (hbox)
               have n6_ := u' ((by rw [hg]; exact (e' (eH HB)) : w.heap.size ≤ gb202))
               have n7_ := u' ((by rw [hg]; exact (e' (eH HB)) : w.heap.size ≤ gb202))
               have n8_ := u' ((by rw [hg]; exact Nat.ne_of_lt (blk_lt (g := gb181) (o := .cells #[.string a0_0, .string a0_1, .string a0_2, .slice A0_3 l0_3.length c0_3, .slice A0_4 l0_4.length c0_4] 25 (0, 0)) (eB BK181)) : gb181 ≠ gb202))
               have n9_ := u' ((by rw [hg]; exact Nat.ne_of_gt (blk_lt (g := gb181) (o := .cells #[.string a0_0, .string a0_1, .string a0_2, .slice A0_3 l0_3.length c0_3, .slice A0_4 l0_4.length c0_4] 25 (0, 0)) (eB BK181)) : gb202 ≠ gb181))
               have n10_ := u' ((by rw [hg]; exact Nat.ne_of_lt (blk_lt (g := gb182) (o := .cells #[.string a1_0, .string a1_1, .string a1_2, .slice A1_3 l1_3.length c1_3, .slice A1_4 l1_4.length c1_4] 25 (0, 0)) (eB BK182)) : gb182 ≠ gb202))
               have n11_ := u' ((by rw [hg]; exact Nat.ne_of_gt (blk_lt (g := gb182) (o := .cells #[.string a1_0, .string a1_1, .string a1_2, .slice A1_3 l1_3.length c1_3, .slice A1_4 l1_4.length c1_4] 25 (0, 0)) (eB BK182)) : gb202 ≠ gb182))
               clear HO188
               clear HO191
               clear BK181
               clear BK182
               clear HB
               have HO188 := n0_
               have HO191 := n1_
               have BK181 := n2_
               have BK182 := n3_
               have HB := n4_
               have BK202 := n5_
               have GW202 := n6_
               have GE202 := n7_
               have NB181_202 := n8_
               have NB202_181 := n9_
               have NB182_202 := n10_
               have NB202_182 := n11_
               clear n0_ n1_ n2_ n3_ n4_ n5_ n6_ n7_ n8_ n9_ n10_ n11_
               clear hb hbox hg
               refine hK.out _ _ ⟨(b' BK181.out 0).trans rfl, (b' BK181.out 1).trans rfl, (b' BK181.out 2).trans rfl, (b' BK181.out 3).trans rfl, (b' BK181.out 4).trans rfl, (b' BK182.out 0).trans rfl, (b' BK182.out 1).trans rfl, (b' BK182.out 2).trans rfl, (b' BK182.out 3).trans rfl, (b' BK182.out 4).trans rfl⟩ (fun hHeld => ?_)
               clear hK K
               refine norm_ (a' := ?_) ?_ ?_
               rotate_left
               ·
                show Act.put _ (some 6) _ = _
                simp only [Act.put, l', m', n', i64_w, i32_w]
                rfl
               exact norm_ (by first | (simp only [putAll, Act.put, l', m', n']; done) | (simp only [putAll, Act.put, l', m', n']; rfl)) (hJ1_5 (v187, v190, gb202) _ ⟨hHeld, (Kd.eR HO188), (Kd.kR (f' HO191.out (fun _ hk => ⟨hk.1.1, ⟨hk.1.2.1, ⟨hk.1.2.2, hk.2⟩⟩⟩))), (eB BK181), (eB BK182), (eB BK202), GW202.out, GE202.out, NB181_202.out, NB202_181.out, NB182_202.out, NB202_182.out, (eH HB)⟩)
            ·
             skip
             rintro ⟨gb201, gb202⟩ w22 ⟨hS_, h0_, h1_, h2_, h3_, h4_, h5_, h6_, h7_, h8_, h9_, h10_, h11_, h12_, h13_, h14_, h15_, h16_, h17_, h18_⟩
             have n0_ : Aside0 (w22.heap[gb181]? = some (.cells #[.string a0_0, .string a0_1, .string a0_2, .slice A0_3 l0_3.length c0_3, .slice A0_4 l0_4.length c0_4] 25 (0, 0))) := ⟨h0_⟩
             have n1_ : Aside0 (w22.heap[gb182]? = some (.cells #[.string a1_0, .string a1_1, .string a1_2, .slice A1_3 l1_3.length c1_3, .slice A1_4 l1_4.length c1_4] 25 (0, 0))) := ⟨h1_⟩
             have n2_ : Aside0 (w22.heap[gb201]? = some (.cells #[.string (⟨#[]⟩ : ByteArray), .string (⟨#[]⟩ : ByteArray), .string (⟨#[]⟩ : ByteArray), .slice none 0 0, .slice none 0 0] 25 (0, 0))) := ⟨h2_⟩
             have n3_ : Aside0 (w22.heap[gb202]? = some (.cells #[.string (⟨#[]⟩ : ByteArray), .string (⟨#[]⟩ : ByteArray), .string (⟨#[]⟩ : ByteArray), .slice none 0 0, .slice none 0 0] 25 (0, 0))) := ⟨h3_⟩
             have n4_ : Aside0 (w.heap.size ≤ gb201) := ⟨h4_⟩
             have n5_ : Aside0 (w.heap.size ≤ gb201) := ⟨h5_⟩
             have n6_ : Aside0 (gb181 ≠ gb201) := ⟨h6_⟩
             have n7_ : Aside0 (gb201 ≠ gb181) := ⟨h7_⟩
             have n8_ : Aside0 (gb182 ≠ gb201) := ⟨h8_⟩
             have n9_ : Aside0 (gb201 ≠ gb182) := ⟨h9_⟩
             have n10_ : Aside0 (gb202 ≠ gb201) := ⟨h10_⟩
             have n11_ : Aside0 (gb201 ≠ gb202) := ⟨h11_⟩
             have n12_ : Aside0 (w.heap.size ≤ gb202) := ⟨h12_⟩
             have n13_ : Aside0 (w.heap.size ≤ gb202) := ⟨h13_⟩
             have n14_ : Aside0 (gb181 ≠ gb202) := ⟨h14_⟩
             have n15_ : Aside0 (gb202 ≠ gb181) := ⟨h15_⟩
             have n16_ : Aside0 (gb182 ≠ gb202) := ⟨h16_⟩
             have n17_ : Aside0 (gb202 ≠ gb182) := ⟨h17_⟩
             have n18_ : Aside0 (Below w.heap.size w w22) := ⟨h18_⟩
             clear BK181
             clear BK182
             clear HB
             clear h0_ h1_ h2_ h3_ h4_ h5_ h6_ h7_ h8_ h9_ h10_ h11_ h12_ h13_ h14_ h15_ h16_ h17_ h18_
             have BK181 := n0_
             have BK182 := n1_
             have BK201 := n2_
             have BK202 := n3_
             have GW201 := n4_
             have GE201 := n5_
             have NB181_201 := n6_
             have NB201_181 := n7_
             have NB182_201 := n8_
             have NB201_182 := n9_
             have NB202_201 := n10_
             have NB201_202 := n11_
             have GW202 := n12_
             have GE202 := n13_
             have NB181_202 := n14_
             have NB202_181 := n15_
             have NB182_202 := n16_
             have NB202_182 := n17_
             have HB := n18_
             clear n0_ n1_ n2_ n3_ n4_ n5_ n6_ n7_ n8_ n9_ n10_ n11_ n12_ n13_ n14_ n15_ n16_ n17_ n18_
             have hHeld : w22.cell? ⟨gb181, 0, none⟩ = some (.string a0_0) ∧ w22.cell? ⟨gb181, 1, none⟩ = some (.string a0_1) ∧ w22.cell? ⟨gb181, 2, none⟩ = some (.string a0_2) ∧ w22.cell? ⟨gb181, 3, none⟩ = some (.slice A0_3 l0_3.length c0_3) ∧ w22.cell? ⟨gb181, 4, none⟩ = some (.slice A0_4 l0_4.length c0_4) ∧ w22.cell? ⟨gb182, 0, none⟩ = some (.string a1_0) ∧ w22.cell? ⟨gb182, 1, none⟩ = some (.string a1_1) ∧ w22.cell? ⟨gb182, 2, none⟩ = some (.string a1_2) ∧ w22.cell? ⟨gb182, 3, none⟩ = some (.slice A1_3 l1_3.length c1_3) ∧ w22.cell? ⟨gb182, 4, none⟩ = some (.slice A1_4 l1_4.length c1_4) := hS_
             refine norm_ (a' := ?_) ?_ ?_
             rotate_left
             ·
              simp only [putAll, Act.put, l', m', n']
              rfl
             refine one_ (i := 1) (N := some 9) #[Y,Y,Y,Z,Y,Y,Z,Z] rfl rfl (one_of HT_.out (by kernel_rfl)) (by decide) (fun K hK => ?_)
             refine goes_ Tryz.func5 (by kernel_rfl) rfl #[.agg #[.string a0_0, .string a0_1, .string a0_2, .slice A0_3 l0_3.length c0_3, .slice A0_4 l0_4.length c0_4]] (by rfl) rfl rfl (by (try simp only [o', p', q']); first | done | rfl | (simp only [r', s']; rfl)) ?_
             with_reducible refine (fanlightplain_CopyTree.calls k a0_0 a0_1 a0_2 _ _ l0_3 _ _ l0_4 t183 t184 t185 t186 t189 _ ?side1 ?side2 ?side3 ?side4 A3.out).mono ?_
             (case side1 => exact Kd.eC HR0_3 HB)
             (case side2 => exact HC0_3.out)
             (case side3 => exact Kd.eC HR0_4 HB)
             (case side4 => exact HC0_4.out)
             rintro e w23 ⟨v187, v190, rfl, ho0, ho1, hb⟩
             refine ⟨_, rfl, ?_⟩
             have n0_ := u' (Kd.R_lower ho0 (e' (eH HB)))
             have n1_ := u' (Kd.R_lower (Kd.R_newB (Kd.R_newB (Kd.R_newB (Kd.R_newB ho1 (g := gb181) (o := .cells #[.string a0_0, .string a0_1, .string a0_2, .slice A0_3 l0_3.length c0_3, .slice A0_4 l0_4.length c0_4] 25 (0, 0)) (eB BK181)) (g := gb182) (o := .cells #[.string a1_0, .string a1_1, .string a1_2, .slice A1_3 l1_3.length c1_3, .slice A1_4 l1_4.length c1_4] 25 (0, 0)) (eB BK182)) (g := gb201) (o := .cells #[.string (⟨#[]⟩ : ByteArray), .string (⟨#[]⟩ : ByteArray), .string (⟨#[]⟩ : ByteArray), .slice none 0 0, .slice none 0 0] 25 (0, 0)) (eB BK201)) (g := gb202) (o := .cells #[.string (⟨#[]⟩ : ByteArray), .string (⟨#[]⟩ : ByteArray), .string (⟨#[]⟩ : ByteArray), .slice none 0 0, .slice none 0 0] 25 (0, 0)) (eB BK202)) (e' (eH HB)))
             have n2_ := u' (c' (g := gb181) (o := .cells #[.string a0_0, .string a0_1, .string a0_2, .slice A0_3 l0_3.length c0_3, .slice A0_4 l0_4.length c0_4] 25 (0, 0)) (eB BK181) hb)
             have n3_ := u' (c' (g := gb182) (o := .cells #[.string a1_0, .string a1_1, .string a1_2, .slice A1_3 l1_3.length c1_3, .slice A1_4 l1_4.length c1_4] 25 (0, 0)) (eB BK182) hb)
             have n4_ := u' (c' (g := gb201) (o := .cells #[.string (⟨#[]⟩ : ByteArray), .string (⟨#[]⟩ : ByteArray), .string (⟨#[]⟩ : ByteArray), .slice none 0 0, .slice none 0 0] 25 (0, 0)) (eB BK201) hb)
             have n5_ := u' (c' (g := gb202) (o := .cells #[.string (⟨#[]⟩ : ByteArray), .string (⟨#[]⟩ : ByteArray), .string (⟨#[]⟩ : ByteArray), .slice none 0 0, .slice none 0 0] 25 (0, 0)) (eB BK202) hb)
             have n6_ := u' (g' (eH HB) hb)
             clear BK181
             clear BK182
             clear BK201
             clear BK202
             clear HB
             have HO188 := n0_
             have HO191 := n1_
             have BK181 := n2_
             have BK182 := n3_
             have BK201 := n4_
             have BK202 := n5_
             have HB := n6_
             clear n0_ n1_ n2_ n3_ n4_ n5_ n6_
             (try clear hb)
             (try clear hb2)
             (try clear hk)
             (try clear hi)
             (try clear ho0)
             (try clear ho1)
             refine hK.out _ _ ⟨(b' BK181.out 0).trans rfl, (b' BK181.out 1).trans rfl, (b' BK181.out 2).trans rfl, (b' BK181.out 3).trans rfl, (b' BK181.out 4).trans rfl, (b' BK182.out 0).trans rfl, (b' BK182.out 1).trans rfl, (b' BK182.out 2).trans rfl, (b' BK182.out 3).trans rfl, (b' BK182.out 4).trans rfl⟩ (fun hHeld => ?_)
             clear hK K
             refine norm_ (a' := ?_) ?_ ?_
             rotate_left
             ·
              show Act.put _ (some 9) _ = _
              simp only [Act.put, l', m', n', i64_w, i32_w]
              rfl
             exact norm_ (by first | (simp only [putAll, Act.put, l', m', n']; done) | (simp only [putAll, Act.put, l', m', n']; rfl)) (hJ1_4_5 (v187, v190, gb201, gb202) _ ⟨hHeld, (Kd.eR HO188), (Kd.kR (f' HO191.out (fun _ hk => ⟨hk.1.1.1.1, ⟨hk.1.1.1.2, ⟨hk.1.1.2, ⟨hk.1.2, hk.2⟩⟩⟩⟩))), (eB BK181), (eB BK182), (eB BK201), (eB BK202), GW201.out, GE201.out, NB181_201.out, NB201_181.out, NB182_201.out, NB201_182.out, NB202_201.out, NB201_202.out, GW202.out, GE202.out, NB181_202.out, NB202_181.out, NB182_202.out, NB202_182.out, (eH HB)⟩)
           ·
            skip
            rintro ⟨v187, v190, gb202⟩ w22 ⟨hS_, h0_, h1_, h2_, h3_, h4_, h5_, h6_, h7_, h8_, h9_, h10_, h11_⟩
            have n0_ : Aside0 (Kd.R k91 91 w22 w.heap.size (fun _ => True) v187 t186) := ⟨h0_⟩
            have n1_ : Aside0 (Kd.R k25 25 w22 w.heap.size (fun k_ => some k_ ≠ (v187 : Value).ownBlock ∧ k_ ≠ gb181 ∧ k_ ≠ gb182 ∧ k_ ≠ gb202) v190 t189) := ⟨h1_⟩
            have n2_ : Aside0 (w22.heap[gb181]? = some (.cells #[.string a0_0, .string a0_1, .string a0_2, .slice A0_3 l0_3.length c0_3, .slice A0_4 l0_4.length c0_4] 25 (0, 0))) := ⟨h2_⟩
            have n3_ : Aside0 (w22.heap[gb182]? = some (.cells #[.string a1_0, .string a1_1, .string a1_2, .slice A1_3 l1_3.length c1_3, .slice A1_4 l1_4.length c1_4] 25 (0, 0))) := ⟨h3_⟩
            have n4_ : Aside0 (w22.heap[gb202]? = some (.cells #[.string (⟨#[]⟩ : ByteArray), .string (⟨#[]⟩ : ByteArray), .string (⟨#[]⟩ : ByteArray), .slice none 0 0, .slice none 0 0] 25 (0, 0))) := ⟨h4_⟩
            have n5_ : Aside0 (w.heap.size ≤ gb202) := ⟨h5_⟩
            have n6_ : Aside0 (w.heap.size ≤ gb202) := ⟨h6_⟩
            have n7_ : Aside0 (gb181 ≠ gb202) := ⟨h7_⟩
            have n8_ : Aside0 (gb202 ≠ gb181) := ⟨h8_⟩
            have n9_ : Aside0 (gb182 ≠ gb202) := ⟨h9_⟩
            have n10_ : Aside0 (gb202 ≠ gb182) := ⟨h10_⟩
            have n11_ : Aside0 (Below w.heap.size w w22) := ⟨h11_⟩
            clear BK181
            clear BK182
            clear HB
            clear h0_ h1_ h2_ h3_ h4_ h5_ h6_ h7_ h8_ h9_ h10_ h11_
            have HO188 := n0_
            have HO191 := n1_
            have BK181 := n2_
            have BK182 := n3_
            have BK202 := n4_
            have GW202 := n5_
            have GE202 := n6_
            have NB181_202 := n7_
            have NB202_181 := n8_
            have NB182_202 := n9_
            have NB202_182 := n10_
            have HB := n11_
            clear n0_ n1_ n2_ n3_ n4_ n5_ n6_ n7_ n8_ n9_ n10_ n11_
            have hHeld : w22.cell? ⟨gb181, 0, none⟩ = some (.string a0_0) ∧ w22.cell? ⟨gb181, 1, none⟩ = some (.string a0_1) ∧ w22.cell? ⟨gb181, 2, none⟩ = some (.string a0_2) ∧ w22.cell? ⟨gb181, 3, none⟩ = some (.slice A0_3 l0_3.length c0_3) ∧ w22.cell? ⟨gb181, 4, none⟩ = some (.slice A0_4 l0_4.length c0_4) ∧ w22.cell? ⟨gb182, 0, none⟩ = some (.string a1_0) ∧ w22.cell? ⟨gb182, 1, none⟩ = some (.string a1_1) ∧ w22.cell? ⟨gb182, 2, none⟩ = some (.string a1_2) ∧ w22.cell? ⟨gb182, 3, none⟩ = some (.slice A1_3 l1_3.length c1_3) ∧ w22.cell? ⟨gb182, 4, none⟩ = some (.slice A1_4 l1_4.length c1_4) := hS_
            refine norm_ (a' := ?_) ?_ ?_
            rotate_left
            ·
             simp only [putAll, Act.put, l', m', n']
             rfl
            refine two_ (i := 3) (j := 4) (Ni := some 11) (Nj := some 5) #[Y,Y,Y,Y,Z,Y,Z,Z] #[Y,Y,Y,Z,Y,Y,Z,Z] rfl rfl rfl rfl (two_of HT_.out (by kernel_rfl)) (by decide) (by decide) (fun K hK => ?_) (fun K hK => ?_)
            ·
             skip
             refine goes_ Tryz.func5 (by kernel_rfl) rfl #[.agg #[.string a1_0, .string a1_1, .string a1_2, .slice A1_3 l1_3.length c1_3, .slice A1_4 l1_4.length c1_4]] (by rfl) rfl rfl (by (try simp only [o', p', q']); first | done | rfl | (simp only [r', s']; rfl)) ?_
             with_reducible refine (fanlightplain_CopyTree.calls k a1_0 a1_1 a1_2 _ _ l1_3 _ _ l1_4 t192 t193 t194 t195 t198 _ ?side1 ?side2 ?side3 ?side4 A4.out).mono ?_
             (case side1 => exact Kd.eC HR1_3 HB)
             (case side2 => exact HC1_3.out)
             (case side3 => exact Kd.eC HR1_4 HB)
             (case side4 => exact HC1_4.out)
             rintro e w23 ⟨v196, v199, rfl, ho0, ho1, hb⟩
             refine ⟨_, rfl, ?_⟩
             have n0_ := u' (Kd.R_elder' (Kd.eR HO188) (Kd.R_base ho0) hb)
             have n1_ := u' (f' (Kd.R_told (Kd.R_told (Kd.R_old (Kd.eR HO191) hb) (Kd.R_base ho0)) (Kd.R_base ho1)) (fun _ h_ => h_.1))
             have n2_ := u' (Kd.R_lower (Kd.R_new' ho0 (Kd.R_lt (Kd.eR HO188))) (e' (eH HB)))
             have n3_ := u' (Kd.R_lower (Kd.R_newB (Kd.R_newB (Kd.R_newB (Kd.R_new' (Kd.R_new' ho1 (Kd.R_lt (Kd.eR HO188))) (Kd.R_lt (Kd.eR HO191))) (g := gb181) (o := .cells #[.string a0_0, .string a0_1, .string a0_2, .slice A0_3 l0_3.length c0_3, .slice A0_4 l0_4.length c0_4] 25 (0, 0)) (eB BK181)) (g := gb182) (o := .cells #[.string a1_0, .string a1_1, .string a1_2, .slice A1_3 l1_3.length c1_3, .slice A1_4 l1_4.length c1_4] 25 (0, 0)) (eB BK182)) (g := gb202) (o := .cells #[.string (⟨#[]⟩ : ByteArray), .string (⟨#[]⟩ : ByteArray), .string (⟨#[]⟩ : ByteArray), .slice none 0 0, .slice none 0 0] 25 (0, 0)) (eB BK202)) (e' (eH HB)))
             have n4_ := u' (c' (g := gb181) (o := .cells #[.string a0_0, .string a0_1, .string a0_2, .slice A0_3 l0_3.length c0_3, .slice A0_4 l0_4.length c0_4] 25 (0, 0)) (eB BK181) hb)
             have n5_ := u' (c' (g := gb182) (o := .cells #[.string a1_0, .string a1_1, .string a1_2, .slice A1_3 l1_3.length c1_3, .slice A1_4 l1_4.length c1_4] 25 (0, 0)) (eB BK182) hb)
             have n6_ := u' (c' (g := gb202) (o := .cells #[.string (⟨#[]⟩ : ByteArray), .string (⟨#[]⟩ : ByteArray), .string (⟨#[]⟩ : ByteArray), .slice none 0 0, .slice none 0 0] 25 (0, 0)) (eB BK202) hb)
             have n7_ := u' (g' (eH HB) hb)
             clear HO188
             clear HO191
             clear BK181
             clear BK182
             clear BK202
             clear HB
             have HO188 := n0_
             have HO191 := n1_
             have HO197 := n2_
             have HO200 := n3_
             have BK181 := n4_
             have BK182 := n5_
             have BK202 := n6_
             have HB := n7_
             clear n0_ n1_ n2_ n3_ n4_ n5_ n6_ n7_
             (try clear hb)
             (try clear hb2)
             (try clear hk)
             (try clear hi)
             (try clear ho0)
             (try clear ho1)
             refine hK.out _ _ ⟨(b' BK181.out 0).trans rfl, (b' BK181.out 1).trans rfl, (b' BK181.out 2).trans rfl, (b' BK181.out 3).trans rfl, (b' BK181.out 4).trans rfl, (b' BK182.out 0).trans rfl, (b' BK182.out 1).trans rfl, (b' BK182.out 2).trans rfl, (b' BK182.out 3).trans rfl, (b' BK182.out 4).trans rfl⟩ (fun hHeld => ?_)
             clear hK K
             refine norm_ (a' := ?_) ?_ ?_
             rotate_left
             ·
              show Act.put _ (some 11) _ = _
              simp only [Act.put, l', m', n', i64_w, i32_w]
              rfl
             exact norm_ (by first | (simp only [putAll, Act.put, l', m', n']; done) | (simp only [putAll, Act.put, l', m', n']; rfl)) (hJ1_3_5 (v187, v190, v196, v199, gb202) _ ⟨hHeld, (Kd.kR (f' HO188.out (fun _ hk => hk.2))), (Kd.kR (f' HO191.out (fun _ hk => ⟨hk.1.1.1, ⟨hk.1.2, ⟨hk.2, ⟨hk.1.1.2.1, ⟨hk.1.1.2.2.1, hk.1.1.2.2.2⟩⟩⟩⟩⟩))), (Kd.kR (f' HO197.out (fun _ hk => hk.2))), (Kd.kR (f' HO200.out (fun _ hk => ⟨hk.1.1.1.1.2, ⟨hk.1.1.1.2, ⟨hk.1.1.1.1.1, ⟨hk.1.1.2, ⟨hk.1.2, hk.2⟩⟩⟩⟩⟩))), (eB BK181), (eB BK182), (eB BK202), GW202.out, GE202.out, NB181_202.out, NB202_181.out, NB182_202.out, NB202_182.out, (eH HB)⟩)
            ·
             skip
             refine box_step ?hg (N := 5) ?hd (cs := #[.string (⟨#[]⟩ : ByteArray), .string (⟨#[]⟩ : ByteArray), .string (⟨#[]⟩ : ByteArray), .slice none 0 0, .slice none 0 0]) (t := 25) ?hr ?_; (case hd => rfl); (case hg => rfl); (case hr => first | (go_simp; done) | (go_simp; rfl))
             intro gb201 hg w23 hbox hb
             have n0_ := u' (d' (Kd.eR HO188) hb)
             have n1_ := u' (d' (Kd.R_elderB (Kd.eR HO191) gb201 (Nat.le_of_eq hg.symm)) hb)
             have n2_ := u' (c' (g := gb181) (o := .cells #[.string a0_0, .string a0_1, .string a0_2, .slice A0_3 l0_3.length c0_3, .slice A0_4 l0_4.length c0_4] 25 (0, 0)) (eB BK181) hb)
             have n3_ := u' (c' (g := gb182) (o := .cells #[.string a1_0, .string a1_1, .string a1_2, .slice A1_3 l1_3.length c1_3, .slice A1_4 l1_4.length c1_4] 25 (0, 0)) (eB BK182) hb)
             have n4_ := u' (c' (g := gb202) (o := .cells #[.string (⟨#[]⟩ : ByteArray), .string (⟨#[]⟩ : ByteArray), .string (⟨#[]⟩ : ByteArray), .slice none 0 0, .slice none 0 0] 25 (0, 0)) (eB BK202) hb)
             have n5_ := u' (g' (eH HB) hb)
             have n6_ := u' (hbox)
             have n7_ := u' ((by rw [hg]; exact (e' (eH HB)) : w.heap.size ≤ gb201))
             have n8_ := u' ((by rw [hg]; exact (e' (eH HB)) : w.heap.size ≤ gb201))
             have n9_ := u' ((by rw [hg]; exact Nat.ne_of_lt (blk_lt (g := gb181) (o := .cells #[.string a0_0, .string a0_1, .string a0_2, .slice A0_3 l0_3.length c0_3, .slice A0_4 l0_4.length c0_4] 25 (0, 0)) (eB BK181)) : gb181 ≠ gb201))
             have n10_ := u' ((by rw [hg]; exact Nat.ne_of_gt (blk_lt (g := gb181) (o := .cells #[.string a0_0, .string a0_1, .string a0_2, .slice A0_3 l0_3.length c0_3, .slice A0_4 l0_4.length c0_4] 25 (0, 0)) (eB BK181)) : gb201 ≠ gb181))
             have n11_ := u' ((by rw [hg]; exact Nat.ne_of_lt (blk_lt (g := gb182) (o := .cells #[.string a1_0, .string a1_1, .string a1_2, .slice A1_3 l1_3.length c1_3, .slice A1_4 l1_4.length c1_4] 25 (0, 0)) (eB BK182)) : gb182 ≠ gb201))
             have n12_ := u' ((by rw [hg]; exact Nat.ne_of_gt (blk_lt (g := gb182) (o := .cells #[.string a1_0, .string a1_1, .string a1_2, .slice A1_3 l1_3.length c1_3, .slice A1_4 l1_4.length c1_4] 25 (0, 0)) (eB BK182)) : gb201 ≠ gb182))
             have n13_ := u' ((by rw [hg]; exact Nat.ne_of_lt (blk_lt (g := gb202) (o := .cells #[.string (⟨#[]⟩ : ByteArray), .string (⟨#[]⟩ : ByteArray), .string (⟨#[]⟩ : ByteArray), .slice none 0 0, .slice none 0 0] 25 (0, 0)) (eB BK202)) : gb202 ≠ gb201))
             have n14_ := u' ((by rw [hg]; exact Nat.ne_of_gt (blk_lt (g := gb202) (o := .cells #[.string (⟨#[]⟩ : ByteArray), .string (⟨#[]⟩ : ByteArray), .string (⟨#[]⟩ : ByteArray), .slice none 0 0, .slice none 0 0] 25 (0, 0)) (eB BK202)) : gb201 ≠ gb202))
             clear HO188
             clear HO191
             clear BK181
             clear BK182
             clear BK202
             clear HB
             have HO188 := n0_
             have HO191 := n1_
             have BK181 := n2_
             have BK182 := n3_
             have BK202 := n4_
             have HB := n5_
             have BK201 := n6_
             have GW201 := n7_
             have GE201 := n8_
             have NB181_201 := n9_
             have NB201_181 := n10_
             have NB182_201 := n11_
             have NB201_182 := n12_
             have NB202_201 := n13_
             have NB201_202 := n14_
             clear n0_ n1_ n2_ n3_ n4_ n5_ n6_ n7_ n8_ n9_ n10_ n11_ n12_ n13_ n14_
             clear hb hbox hg
             refine hK.out _ _ ⟨(b' BK181.out 0).trans rfl, (b' BK181.out 1).trans rfl, (b' BK181.out 2).trans rfl, (b' BK181.out 3).trans rfl, (b' BK181.out 4).trans rfl, (b' BK182.out 0).trans rfl, (b' BK182.out 1).trans rfl, (b' BK182.out 2).trans rfl, (b' BK182.out 3).trans rfl, (b' BK182.out 4).trans rfl⟩ (fun hHeld => ?_)
             clear hK K
             refine norm_ (a' := ?_) ?_ ?_
             rotate_left
             ·
              show Act.put _ (some 5) _ = _
              simp only [Act.put, l', m', n', i64_w, i32_w]
              rfl
             exact norm_ (by first | (simp only [putAll, Act.put, l', m', n']; done) | (simp only [putAll, Act.put, l', m', n']; rfl)) (hJ1_4_5 (v187, v190, gb201, gb202) _ ⟨hHeld, (Kd.eR HO188), (Kd.kR (f' HO191.out (fun _ hk => ⟨hk.1.1, ⟨hk.1.2.1, ⟨hk.1.2.2.1, ⟨hk.2, hk.1.2.2.2⟩⟩⟩⟩))), (eB BK181), (eB BK182), (eB BK201), (eB BK202), GW201.out, GE201.out, NB181_201.out, NB201_181.out, NB182_201.out, NB201_182.out, NB202_201.out, NB201_202.out, GW202.out, GE202.out, NB181_202.out, NB202_181.out, NB182_202.out, NB202_182.out, (eH HB)⟩)
          ·
           skip
           rintro ⟨v187, v190, gb201⟩ w22 ⟨hS_, h0_, h1_, h2_, h3_, h4_, h5_, h6_, h7_, h8_, h9_, h10_, h11_⟩
           have n0_ : Aside0 (Kd.R k91 91 w22 w.heap.size (fun _ => True) v187 t186) := ⟨h0_⟩
           have n1_ : Aside0 (Kd.R k25 25 w22 w.heap.size (fun k_ => some k_ ≠ (v187 : Value).ownBlock ∧ k_ ≠ gb181 ∧ k_ ≠ gb182 ∧ k_ ≠ gb201) v190 t189) := ⟨h1_⟩
           have n2_ : Aside0 (w22.heap[gb181]? = some (.cells #[.string a0_0, .string a0_1, .string a0_2, .slice A0_3 l0_3.length c0_3, .slice A0_4 l0_4.length c0_4] 25 (0, 0))) := ⟨h2_⟩
           have n3_ : Aside0 (w22.heap[gb182]? = some (.cells #[.string a1_0, .string a1_1, .string a1_2, .slice A1_3 l1_3.length c1_3, .slice A1_4 l1_4.length c1_4] 25 (0, 0))) := ⟨h3_⟩
           have n4_ : Aside0 (w22.heap[gb201]? = some (.cells #[.string (⟨#[]⟩ : ByteArray), .string (⟨#[]⟩ : ByteArray), .string (⟨#[]⟩ : ByteArray), .slice none 0 0, .slice none 0 0] 25 (0, 0))) := ⟨h4_⟩
           have n5_ : Aside0 (w.heap.size ≤ gb201) := ⟨h5_⟩
           have n6_ : Aside0 (w.heap.size ≤ gb201) := ⟨h6_⟩
           have n7_ : Aside0 (gb181 ≠ gb201) := ⟨h7_⟩
           have n8_ : Aside0 (gb201 ≠ gb181) := ⟨h8_⟩
           have n9_ : Aside0 (gb182 ≠ gb201) := ⟨h9_⟩
           have n10_ : Aside0 (gb201 ≠ gb182) := ⟨h10_⟩
           have n11_ : Aside0 (Below w.heap.size w w22) := ⟨h11_⟩
           clear BK181
           clear BK182
           clear HB
           clear h0_ h1_ h2_ h3_ h4_ h5_ h6_ h7_ h8_ h9_ h10_ h11_
           have HO188 := n0_
           have HO191 := n1_
           have BK181 := n2_
           have BK182 := n3_
           have BK201 := n4_
           have GW201 := n5_
           have GE201 := n6_
           have NB181_201 := n7_
           have NB201_181 := n8_
           have NB182_201 := n9_
           have NB201_182 := n10_
           have HB := n11_
           clear n0_ n1_ n2_ n3_ n4_ n5_ n6_ n7_ n8_ n9_ n10_ n11_
           have hHeld : w22.cell? ⟨gb181, 0, none⟩ = some (.string a0_0) ∧ w22.cell? ⟨gb181, 1, none⟩ = some (.string a0_1) ∧ w22.cell? ⟨gb181, 2, none⟩ = some (.string a0_2) ∧ w22.cell? ⟨gb181, 3, none⟩ = some (.slice A0_3 l0_3.length c0_3) ∧ w22.cell? ⟨gb181, 4, none⟩ = some (.slice A0_4 l0_4.length c0_4) ∧ w22.cell? ⟨gb182, 0, none⟩ = some (.string a1_0) ∧ w22.cell? ⟨gb182, 1, none⟩ = some (.string a1_1) ∧ w22.cell? ⟨gb182, 2, none⟩ = some (.string a1_2) ∧ w22.cell? ⟨gb182, 3, none⟩ = some (.slice A1_3 l1_3.length c1_3) ∧ w22.cell? ⟨gb182, 4, none⟩ = some (.slice A1_4 l1_4.length c1_4) := hS_
           refine norm_ (a' := ?_) ?_ ?_
           rotate_left
           ·
            simp only [putAll, Act.put, l', m', n']
            rfl
           refine two_ (i := 3) (j := 5) (Ni := some 11) (Nj := some 6) #[Y,Y,Y,Y,Y,Z,Z,Z] #[Y,Y,Y,Z,Y,Y,Z,Z] rfl rfl rfl rfl (two_of HT_.out (by kernel_rfl)) (by decide) (by decide) (fun K hK => ?_) (fun K hK => ?_)
           ·
            skip
            refine goes_ Tryz.func5 (by kernel_rfl) rfl #[.agg #[.string a1_0, .string a1_1, .string a1_2, .slice A1_3 l1_3.length c1_3, .slice A1_4 l1_4.length c1_4]] (by rfl) rfl rfl (by (try simp only [o', p', q']); first | done | rfl | (simp only [r', s']; rfl)) ?_
            with_reducible refine (fanlightplain_CopyTree.calls k a1_0 a1_1 a1_2 _ _ l1_3 _ _ l1_4 t192 t193 t194 t195 t198 _ ?side1 ?side2 ?side3 ?side4 A4.out).mono ?_
            (case side1 => exact Kd.eC HR1_3 HB)
            (case side2 => exact HC1_3.out)
            (case side3 => exact Kd.eC HR1_4 HB)
            (case side4 => exact HC1_4.out)
            rintro e w23 ⟨v196, v199, rfl, ho0, ho1, hb⟩
            refine ⟨_, rfl, ?_⟩
            have n0_ := u' (Kd.R_elder' (Kd.eR HO188) (Kd.R_base ho0) hb)
            have n1_ := u' (f' (Kd.R_told (Kd.R_told (Kd.R_old (Kd.eR HO191) hb) (Kd.R_base ho0)) (Kd.R_base ho1)) (fun _ h_ => h_.1))
            have n2_ := u' (Kd.R_lower (Kd.R_new' ho0 (Kd.R_lt (Kd.eR HO188))) (e' (eH HB)))
            have n3_ := u' (Kd.R_lower (Kd.R_newB (Kd.R_newB (Kd.R_newB (Kd.R_new' (Kd.R_new' ho1 (Kd.R_lt (Kd.eR HO188))) (Kd.R_lt (Kd.eR HO191))) (g := gb181) (o := .cells #[.string a0_0, .string a0_1, .string a0_2, .slice A0_3 l0_3.length c0_3, .slice A0_4 l0_4.length c0_4] 25 (0, 0)) (eB BK181)) (g := gb182) (o := .cells #[.string a1_0, .string a1_1, .string a1_2, .slice A1_3 l1_3.length c1_3, .slice A1_4 l1_4.length c1_4] 25 (0, 0)) (eB BK182)) (g := gb201) (o := .cells #[.string (⟨#[]⟩ : ByteArray), .string (⟨#[]⟩ : ByteArray), .string (⟨#[]⟩ : ByteArray), .slice none 0 0, .slice none 0 0] 25 (0, 0)) (eB BK201)) (e' (eH HB)))
            have n4_ := u' (c' (g := gb181) (o := .cells #[.string a0_0, .string a0_1, .string a0_2, .slice A0_3 l0_3.length c0_3, .slice A0_4 l0_4.length c0_4] 25 (0, 0)) (eB BK181) hb)
            have n5_ := u' (c' (g := gb182) (o := .cells #[.string a1_0, .string a1_1, .string a1_2, .slice A1_3 l1_3.length c1_3, .slice A1_4 l1_4.length c1_4] 25 (0, 0)) (eB BK182) hb)
            have n6_ := u' (c' (g := gb201) (o := .cells #[.string (⟨#[]⟩ : ByteArray), .string (⟨#[]⟩ : ByteArray), .string (⟨#[]⟩ : ByteArray), .slice none 0 0, .slice none 0 0] 25 (0, 0)) (eB BK201) hb)
            have n7_ := u' (g' (eH HB) hb)
            clear HO188
            clear HO191
            clear BK181
            clear BK182
            clear BK201
            clear HB
            have HO188 := n0_
            have HO191 := n1_
            have HO197 := n2_
            have HO200 := n3_
            have BK181 := n4_
            have BK182 := n5_
            have BK201 := n6_
            have HB := n7_
            clear n0_ n1_ n2_ n3_ n4_ n5_ n6_ n7_
            (try clear hb)
            (try clear hb2)
            (try clear hk)
            (try clear hi)
            (try clear ho0)
            (try clear ho1)
            refine hK.out _ _ ⟨(b' BK181.out 0).trans rfl, (b' BK181.out 1).trans rfl, (b' BK181.out 2).trans rfl, (b' BK181.out 3).trans rfl, (b' BK181.out 4).trans rfl, (b' BK182.out 0).trans rfl, (b' BK182.out 1).trans rfl, (b' BK182.out 2).trans rfl, (b' BK182.out 3).trans rfl, (b' BK182.out 4).trans rfl⟩ (fun hHeld => ?_)
            clear hK K
            refine norm_ (a' := ?_) ?_ ?_
            rotate_left
            ·
             show Act.put _ (some 11) _ = _
             simp only [Act.put, l', m', n', i64_w, i32_w]
             rfl
            exact norm_ (by first | (simp only [putAll, Act.put, l', m', n']; done) | (simp only [putAll, Act.put, l', m', n']; rfl)) (hJ1_3_4 (v187, v190, v196, v199, gb201) _ ⟨hHeld, (Kd.kR (f' HO188.out (fun _ hk => hk.2))), (Kd.kR (f' HO191.out (fun _ hk => ⟨hk.1.1.1, ⟨hk.1.2, ⟨hk.2, ⟨hk.1.1.2.1, ⟨hk.1.1.2.2.1, hk.1.1.2.2.2⟩⟩⟩⟩⟩))), (Kd.kR (f' HO197.out (fun _ hk => hk.2))), (Kd.kR (f' HO200.out (fun _ hk => ⟨hk.1.1.1.1.2, ⟨hk.1.1.1.2, ⟨hk.1.1.1.1.1, ⟨hk.1.1.2, ⟨hk.1.2, hk.2⟩⟩⟩⟩⟩))), (eB BK181), (eB BK182), (eB BK201), GW201.out, GE201.out, NB181_201.out, NB201_181.out, NB182_201.out, NB201_182.out, (eH HB)⟩)
           ·
            skip
            refine box_step ?hg (N := 6) ?hd (cs := #[.string (⟨#[]⟩ : ByteArray), .string (⟨#[]⟩ : ByteArray), .string (⟨#[]⟩ : ByteArray), .slice none 0 0, .slice none 0 0]) (t := 25) ?hr ?_; (case hd => rfl); (case hg => rfl); (case hr => first | (go_simp; done) | (go_simp; rfl))
            intro gb202 hg w23 hbox hb
            have n0_ := u' (d' (Kd.eR HO188) hb)
            have n1_ := u' (d' (Kd.R_elderB (Kd.eR HO191) gb202 (Nat.le_of_eq hg.symm)) hb)
            have n2_ := u' (c' (g := gb181) (o := .cells #[.string a0_0, .string a0_1, .string a0_2, .slice A0_3 l0_3.length c0_3, .slice A0_4 l0_4.length c0_4] 25 (0, 0)) (eB BK181) hb)
            have n3_ := u' (c' (g := gb182) (o := .cells #[.string a1_0, .string a1_1, .string a1_2, .slice A1_3 l1_3.length c1_3, .slice A1_4 l1_4.length c1_4] 25 (0, 0)) (eB BK182) hb)
            have n4_ := u' (c' (g := gb201) (o := .cells #[.string (⟨#[]⟩ : ByteArray), .string (⟨#[]⟩ : ByteArray), .string (⟨#[]⟩ : ByteArray), .slice none 0 0, .slice none 0 0] 25 (0, 0)) (eB BK201) hb)
            have n5_ := u' (g' (eH HB) hb)
            have n6_ := u' (hbox)
            have n7_ := u' ((by rw [hg]; exact (e' (eH HB)) : w.heap.size ≤ gb202))
            have n8_ := u' ((by rw [hg]; exact (e' (eH HB)) : w.heap.size ≤ gb202))
            have n9_ := u' ((by rw [hg]; exact Nat.ne_of_lt (blk_lt (g := gb181) (o := .cells #[.string a0_0, .string a0_1, .string a0_2, .slice A0_3 l0_3.length c0_3, .slice A0_4 l0_4.length c0_4] 25 (0, 0)) (eB BK181)) : gb181 ≠ gb202))
            have n10_ := u' ((by rw [hg]; exact Nat.ne_of_gt (blk_lt (g := gb181) (o := .cells #[.string a0_0, .string a0_1, .string a0_2, .slice A0_3 l0_3.length c0_3, .slice A0_4 l0_4.length c0_4] 25 (0, 0)) (eB BK181)) : gb202 ≠ gb181))
            have n11_ := u' ((by rw [hg]; exact Nat.ne_of_lt (blk_lt (g := gb182) (o := .cells #[.string a1_0, .string a1_1, .string a1_2, .slice A1_3 l1_3.length c1_3, .slice A1_4 l1_4.length c1_4] 25 (0, 0)) (eB BK182)) : gb182 ≠ gb202))
            have n12_ := u' ((by rw [hg]; exact Nat.ne_of_gt (blk_lt (g := gb182) (o := .cells #[.string a1_0, .string a1_1, .string a1_2, .slice A1_3 l1_3.length c1_3, .slice A1_4 l1_4.length c1_4] 25 (0, 0)) (eB BK182)) : gb202 ≠ gb182))
            have n13_ := u' ((by rw [hg]; exact Nat.ne_of_lt (blk_lt (g := gb201) (o := .cells #[.string (⟨#[]⟩ : ByteArray), .string (⟨#[]⟩ : ByteArray), .string (⟨#[]⟩ : ByteArray), .slice none 0 0, .slice none 0 0] 25 (0, 0)) (eB BK201)) : gb201 ≠ gb202))
            have n14_ := u' ((by rw [hg]; exact Nat.ne_of_gt (blk_lt (g := gb201) (o := .cells #[.string (⟨#[]⟩ : ByteArray), .string (⟨#[]⟩ : ByteArray), .string (⟨#[]⟩ : ByteArray), .slice none 0 0, .slice none 0 0] 25 (0, 0)) (eB BK201)) : gb202 ≠ gb201))
            clear HO188
            clear HO191
            clear BK181
            clear BK182
            clear BK201
            clear HB
            have HO188 := n0_
            have HO191 := n1_
            have BK181 := n2_
            have BK182 := n3_
            have BK201 := n4_
            have HB := n5_
            have BK202 := n6_
            have GW202 := n7_
            have GE202 := n8_
            have NB181_202 := n9_
            have NB202_181 := n10_
            have NB182_202 := n11_
            have NB202_182 := n12_
            have NB201_202 := n13_
            have NB202_201 := n14_
            clear n0_ n1_ n2_ n3_ n4_ n5_ n6_ n7_ n8_ n9_ n10_ n11_ n12_ n13_ n14_
            clear hb hbox hg
            refine hK.out _ _ ⟨(b' BK181.out 0).trans rfl, (b' BK181.out 1).trans rfl, (b' BK181.out 2).trans rfl, (b' BK181.out 3).trans rfl, (b' BK181.out 4).trans rfl, (b' BK182.out 0).trans rfl, (b' BK182.out 1).trans rfl, (b' BK182.out 2).trans rfl, (b' BK182.out 3).trans rfl, (b' BK182.out 4).trans rfl⟩ (fun hHeld => ?_)
            clear hK K
            refine norm_ (a' := ?_) ?_ ?_
            rotate_left
            ·
             show Act.put _ (some 6) _ = _
             simp only [Act.put, l', m', n', i64_w, i32_w]
             rfl
            exact norm_ (by first | (simp only [putAll, Act.put, l', m', n']; done) | (simp only [putAll, Act.put, l', m', n']; rfl)) (hJ1_4_5 (v187, v190, gb201, gb202) _ ⟨hHeld, (Kd.eR HO188), (Kd.kR (f' HO191.out (fun _ hk => ⟨hk.1.1, ⟨hk.1.2.1, ⟨hk.1.2.2.1, ⟨hk.1.2.2.2, hk.2⟩⟩⟩⟩))), (eB BK181), (eB BK182), (eB BK201), (eB BK202), GW201.out, GE201.out, NB181_201.out, NB201_181.out, NB182_201.out, NB201_182.out, NB202_201.out, NB201_202.out, GW202.out, GE202.out, NB181_202.out, NB202_181.out, NB182_202.out, NB202_182.out, (eH HB)⟩)
         ·
          skip
          rintro ⟨v187, v190, v196, v199⟩ w22 ⟨hS_, h0_, h1_, h2_, h3_, h4_, h5_, h6_⟩
          have n0_ : Aside0 (Kd.R k91 91 w22 w.heap.size (fun k_ => some k_ ≠ (v196 : Value).ownBlock) v187 t186) := ⟨h0_⟩
          have n1_ : Aside0 (Kd.R k25 25 w22 w.heap.size (fun k_ => some k_ ≠ (v187 : Value).ownBlock ∧ some k_ ≠ (v196 : Value).ownBlock ∧ some k_ ≠ (v199 : Value).ownBlock ∧ k_ ≠ gb181 ∧ k_ ≠ gb182) v190 t189) := ⟨h1_⟩
          have n2_ : Aside0 (Kd.R k91 91 w22 w.heap.size (fun k_ => some k_ ≠ (v187 : Value).ownBlock) v196 t195) := ⟨h2_⟩
          have n3_ : Aside0 (Kd.R k25 25 w22 w.heap.size (fun k_ => some k_ ≠ (v187 : Value).ownBlock ∧ some k_ ≠ (v190 : Value).ownBlock ∧ some k_ ≠ (v196 : Value).ownBlock ∧ k_ ≠ gb181 ∧ k_ ≠ gb182) v199 t198) := ⟨h3_⟩
          have n4_ : Aside0 (w22.heap[gb181]? = some (.cells #[.string a0_0, .string a0_1, .string a0_2, .slice A0_3 l0_3.length c0_3, .slice A0_4 l0_4.length c0_4] 25 (0, 0))) := ⟨h4_⟩
          have n5_ : Aside0 (w22.heap[gb182]? = some (.cells #[.string a1_0, .string a1_1, .string a1_2, .slice A1_3 l1_3.length c1_3, .slice A1_4 l1_4.length c1_4] 25 (0, 0))) := ⟨h5_⟩
          have n6_ : Aside0 (Below w.heap.size w w22) := ⟨h6_⟩
          clear BK181
          clear BK182
          clear HB
          clear h0_ h1_ h2_ h3_ h4_ h5_ h6_
          have HO188 := n0_
          have HO191 := n1_
          have HO197 := n2_
          have HO200 := n3_
          have BK181 := n4_
          have BK182 := n5_
          have HB := n6_
          clear n0_ n1_ n2_ n3_ n4_ n5_ n6_
          have hHeld : w22.cell? ⟨gb181, 0, none⟩ = some (.string a0_0) ∧ w22.cell? ⟨gb181, 1, none⟩ = some (.string a0_1) ∧ w22.cell? ⟨gb181, 2, none⟩ = some (.string a0_2) ∧ w22.cell? ⟨gb181, 3, none⟩ = some (.slice A0_3 l0_3.length c0_3) ∧ w22.cell? ⟨gb181, 4, none⟩ = some (.slice A0_4 l0_4.length c0_4) ∧ w22.cell? ⟨gb182, 0, none⟩ = some (.string a1_0) ∧ w22.cell? ⟨gb182, 1, none⟩ = some (.string a1_1) ∧ w22.cell? ⟨gb182, 2, none⟩ = some (.string a1_2) ∧ w22.cell? ⟨gb182, 3, none⟩ = some (.slice A1_3 l1_3.length c1_3) ∧ w22.cell? ⟨gb182, 4, none⟩ = some (.slice A1_4 l1_4.length c1_4) := hS_
          refine norm_ (a' := ?_) ?_ ?_
          rotate_left
          ·
           simp only [putAll, Act.put, l', m', n']
           rfl
          refine two_ (i := 4) (j := 5) (Ni := some 5) (Nj := some 6) #[Y,Y,Y,Y,Y,Z,Z,Z] #[Y,Y,Y,Y,Z,Y,Z,Z] rfl rfl rfl rfl (two_of HT_.out (by kernel_rfl)) (by decide) (by decide) (fun K hK => ?_) (fun K hK => ?_)
          ·
           skip
           refine box_step ?hg (N := 5) ?hd (cs := #[.string (⟨#[]⟩ : ByteArray), .string (⟨#[]⟩ : ByteArray), .string (⟨#[]⟩ : ByteArray), .slice none 0 0, .slice none 0 0]) (t := 25) ?hr ?_; (case hd => rfl); (case hg => rfl); (case hr => first | (go_simp; done) | (go_simp; rfl))
           intro gb201 hg w23 hbox hb
           have n0_ := u' (d' (Kd.eR HO188) hb)
           have n1_ := u' (d' (Kd.R_elderB (Kd.eR HO191) gb201 (Nat.le_of_eq hg.symm)) hb)
           have n2_ := u' (d' (Kd.eR HO197) hb)
           have n3_ := u' (d' (Kd.R_elderB (Kd.eR HO200) gb201 (Nat.le_of_eq hg.symm)) hb)
           have n4_ := u' (c' (g := gb181) (o := .cells #[.string a0_0, .string a0_1, .string a0_2, .slice A0_3 l0_3.length c0_3, .slice A0_4 l0_4.length c0_4] 25 (0, 0)) (eB BK181) hb)
           have n5_ := u' (c' (g := gb182) (o := .cells #[.string a1_0, .string a1_1, .string a1_2, .slice A1_3 l1_3.length c1_3, .slice A1_4 l1_4.length c1_4] 25 (0, 0)) (eB BK182) hb)
           have n6_ := u' (g' (eH HB) hb)
           have n7_ := u' (hbox)
           have n8_ := u' ((by rw [hg]; exact (e' (eH HB)) : w.heap.size ≤ gb201))
           have n9_ := u' ((by rw [hg]; exact (e' (eH HB)) : w.heap.size ≤ gb201))
           have n10_ := u' ((by rw [hg]; exact Nat.ne_of_lt (blk_lt (g := gb181) (o := .cells #[.string a0_0, .string a0_1, .string a0_2, .slice A0_3 l0_3.length c0_3, .slice A0_4 l0_4.length c0_4] 25 (0, 0)) (eB BK181)) : gb181 ≠ gb201))
           have n11_ := u' ((by rw [hg]; exact Nat.ne_of_gt (blk_lt (g := gb181) (o := .cells #[.string a0_0, .string a0_1, .string a0_2, .slice A0_3 l0_3.length c0_3, .slice A0_4 l0_4.length c0_4] 25 (0, 0)) (eB BK181)) : gb201 ≠ gb181))
           have n12_ := u' ((by rw [hg]; exact Nat.ne_of_lt (blk_lt (g := gb182) (o := .cells #[.string a1_0, .string a1_1, .string a1_2, .slice A1_3 l1_3.length c1_3, .slice A1_4 l1_4.length c1_4] 25 (0, 0)) (eB BK182)) : gb182 ≠ gb201))
           have n13_ := u' ((by rw [hg]; exact Nat.ne_of_gt (blk_lt (g := gb182) (o := .cells #[.string a1_0, .string a1_1, .string a1_2, .slice A1_3 l1_3.length c1_3, .slice A1_4 l1_4.length c1_4] 25 (0, 0)) (eB BK182)) : gb201 ≠ gb182))
           clear HO188
           clear HO191
           clear HO197
           clear HO200
           clear BK181
           clear BK182
           clear HB
           have HO188 := n0_
           have HO191 := n1_
           have HO197 := n2_
           have HO200 := n3_
           have BK181 := n4_
           have BK182 := n5_
           have HB := n6_
           have BK201 := n7_
           have GW201 := n8_
           have GE201 := n9_
           have NB181_201 := n10_
           have NB201_181 := n11_
           have NB182_201 := n12_
           have NB201_182 := n13_
           clear n0_ n1_ n2_ n3_ n4_ n5_ n6_ n7_ n8_ n9_ n10_ n11_ n12_ n13_
           clear hb hbox hg
           refine hK.out _ _ ⟨(b' BK181.out 0).trans rfl, (b' BK181.out 1).trans rfl, (b' BK181.out 2).trans rfl, (b' BK181.out 3).trans rfl, (b' BK181.out 4).trans rfl, (b' BK182.out 0).trans rfl, (b' BK182.out 1).trans rfl, (b' BK182.out 2).trans rfl, (b' BK182.out 3).trans rfl, (b' BK182.out 4).trans rfl⟩ (fun hHeld => ?_)
           clear hK K
           refine norm_ (a' := ?_) ?_ ?_
           rotate_left
           ·
            show Act.put _ (some 5) _ = _
            simp only [Act.put, l', m', n', i64_w, i32_w]
            rfl
           exact norm_ (by first | (simp only [putAll, Act.put, l', m', n']; done) | (simp only [putAll, Act.put, l', m', n']; rfl)) (hJ1_3_4 (v187, v190, v196, v199, gb201) _ ⟨hHeld, (Kd.eR HO188), (Kd.kR (f' HO191.out (fun _ hk => ⟨hk.1.1, ⟨hk.1.2.1, ⟨hk.1.2.2.1, ⟨hk.1.2.2.2.1, ⟨hk.1.2.2.2.2, hk.2⟩⟩⟩⟩⟩))), (Kd.eR HO197), (Kd.kR (f' HO200.out (fun _ hk => ⟨hk.1.1, ⟨hk.1.2.1, ⟨hk.1.2.2.1, ⟨hk.1.2.2.2.1, ⟨hk.1.2.2.2.2, hk.2⟩⟩⟩⟩⟩))), (eB BK181), (eB BK182), (eB BK201), GW201.out, GE201.out, NB181_201.out, NB201_181.out, NB182_201.out, NB201_182.out, (eH HB)⟩)
          ·
           skip
           refine box_step ?hg (N := 6) ?hd (cs := #[.string (⟨#[]⟩ : ByteArray), .string (⟨#[]⟩ : ByteArray), .string (⟨#[]⟩ : ByteArray), .slice none 0 0, .slice none 0 0]) (t := 25) ?hr ?_; (case hd => rfl); (case hg => rfl); (case hr => first | (go_simp; done) | (go_simp; rfl))
           intro gb202 hg w23 hbox hb
           have n0_ := u' (d' (Kd.eR HO188) hb)
           have n1_ := u' (d' (Kd.R_elderB (Kd.eR HO191) gb202 (Nat.le_of_eq hg.symm)) hb)
           have n2_ := u' (d' (Kd.eR HO197) hb)
           have n3_ := u' (d' (Kd.R_elderB (Kd.eR HO200) gb202 (Nat.le_of_eq hg.symm)) hb)
           have n4_ := u' (c' (g := gb181) (o := .cells #[.string a0_0, .string a0_1, .string a0_2, .slice A0_3 l0_3.length c0_3, .slice A0_4 l0_4.length c0_4] 25 (0, 0)) (eB BK181) hb)
           have n5_ := u' (c' (g := gb182) (o := .cells #[.string a1_0, .string a1_1, .string a1_2, .slice A1_3 l1_3.length c1_3, .slice A1_4 l1_4.length c1_4] 25 (0, 0)) (eB BK182) hb)
           have n6_ := u' (g' (eH HB) hb)
           have n7_ := u' (hbox)
           have n8_ := u' ((by rw [hg]; exact (e' (eH HB)) : w.heap.size ≤ gb202))
           have n9_ := u' ((by rw [hg]; exact (e' (eH HB)) : w.heap.size ≤ gb202))
           have n10_ := u' ((by rw [hg]; exact Nat.ne_of_lt (blk_lt (g := gb181) (o := .cells #[.string a0_0, .string a0_1, .string a0_2, .slice A0_3 l0_3.length c0_3, .slice A0_4 l0_4.length c0_4] 25 (0, 0)) (eB BK181)) : gb181 ≠ gb202))
           have n11_ := u' ((by rw [hg]; exact Nat.ne_of_gt (blk_lt (g := gb181) (o := .cells #[.string a0_0, .string a0_1, .string a0_2, .slice A0_3 l0_3.length c0_3, .slice A0_4 l0_4.length c0_4] 25 (0, 0)) (eB BK181)) : gb202 ≠ gb181))
           have n12_ := u' ((by rw [hg]; exact Nat.ne_of_lt (blk_lt (g := gb182) (o := .cells #[.string a1_0, .string a1_1, .string a1_2, .slice A1_3 l1_3.length c1_3, .slice A1_4 l1_4.length c1_4] 25 (0, 0)) (eB BK182)) : gb182 ≠ gb202))
           have n13_ := u' ((by rw [hg]; exact Nat.ne_of_gt (blk_lt (g := gb182) (o := .cells #[.string a1_0, .string a1_1, .string a1_2, .slice A1_3 l1_3.length c1_3, .slice A1_4 l1_4.length c1_4] 25 (0, 0)) (eB BK182)) : gb202 ≠ gb182))
           clear HO188
           clear HO191
           clear HO197
           clear HO200
           clear BK181
           clear BK182
           clear HB
           have HO188 := n0_
           have HO191 := n1_
           have HO197 := n2_
           have HO200 := n3_
           have BK181 := n4_
           have BK182 := n5_
           have HB := n6_
           have BK202 := n7_
           have GW202 := n8_
           have GE202 := n9_
           have NB181_202 := n10_
           have NB202_181 := n11_
           have NB182_202 := n12_
           have NB202_182 := n13_
           clear n0_ n1_ n2_ n3_ n4_ n5_ n6_ n7_ n8_ n9_ n10_ n11_ n12_ n13_
           clear hb hbox hg
           refine hK.out _ _ ⟨(b' BK181.out 0).trans rfl, (b' BK181.out 1).trans rfl, (b' BK181.out 2).trans rfl, (b' BK181.out 3).trans rfl, (b' BK181.out 4).trans rfl, (b' BK182.out 0).trans rfl, (b' BK182.out 1).trans rfl, (b' BK182.out 2).trans rfl, (b' BK182.out 3).trans rfl, (b' BK182.out 4).trans rfl⟩ (fun hHeld => ?_)
           clear hK K
           refine norm_ (a' := ?_) ?_ ?_
           rotate_left
           ·
            show Act.put _ (some 6) _ = _
            simp only [Act.put, l', m', n', i64_w, i32_w]
            rfl
           exact norm_ (by first | (simp only [putAll, Act.put, l', m', n']; done) | (simp only [putAll, Act.put, l', m', n']; rfl)) (hJ1_3_5 (v187, v190, v196, v199, gb202) _ ⟨hHeld, (Kd.eR HO188), (Kd.kR (f' HO191.out (fun _ hk => ⟨hk.1.1, ⟨hk.1.2.1, ⟨hk.1.2.2.1, ⟨hk.1.2.2.2.1, ⟨hk.1.2.2.2.2, hk.2⟩⟩⟩⟩⟩))), (Kd.eR HO197), (Kd.kR (f' HO200.out (fun _ hk => ⟨hk.1.1, ⟨hk.1.2.1, ⟨hk.1.2.2.1, ⟨hk.1.2.2.2.1, ⟨hk.1.2.2.2.2, hk.2⟩⟩⟩⟩⟩))), (eB BK181), (eB BK182), (eB BK202), GW202.out, GE202.out, NB181_202.out, NB202_181.out, NB182_202.out, NB202_182.out, (eH HB)⟩)
        ·
         skip
         rintro ⟨v187, v190, gb201, gb202⟩ w23 ⟨hS_, h0_, h1_, h2_, h3_, h4_, h5_, h6_, h7_, h8_, h9_, h10_, h11_, h12_, h13_, h14_, h15_, h16_, h17_, h18_, h19_, h20_⟩
         have n0_ : Aside0 (Kd.R k91 91 w23 w.heap.size (fun _ => True) v187 t186) := ⟨h0_⟩
         have n1_ : Aside0 (Kd.R k25 25 w23 w.heap.size (fun k_ => some k_ ≠ (v187 : Value).ownBlock ∧ k_ ≠ gb181 ∧ k_ ≠ gb182 ∧ k_ ≠ gb201 ∧ k_ ≠ gb202) v190 t189) := ⟨h1_⟩
         have n2_ : Aside0 (w23.heap[gb181]? = some (.cells #[.string a0_0, .string a0_1, .string a0_2, .slice A0_3 l0_3.length c0_3, .slice A0_4 l0_4.length c0_4] 25 (0, 0))) := ⟨h2_⟩
         have n3_ : Aside0 (w23.heap[gb182]? = some (.cells #[.string a1_0, .string a1_1, .string a1_2, .slice A1_3 l1_3.length c1_3, .slice A1_4 l1_4.length c1_4] 25 (0, 0))) := ⟨h3_⟩
         have n4_ : Aside0 (w23.heap[gb201]? = some (.cells #[.string (⟨#[]⟩ : ByteArray), .string (⟨#[]⟩ : ByteArray), .string (⟨#[]⟩ : ByteArray), .slice none 0 0, .slice none 0 0] 25 (0, 0))) := ⟨h4_⟩
         have n5_ : Aside0 (w23.heap[gb202]? = some (.cells #[.string (⟨#[]⟩ : ByteArray), .string (⟨#[]⟩ : ByteArray), .string (⟨#[]⟩ : ByteArray), .slice none 0 0, .slice none 0 0] 25 (0, 0))) := ⟨h5_⟩
         have n6_ : Aside0 (w.heap.size ≤ gb201) := ⟨h6_⟩
         have n7_ : Aside0 (w.heap.size ≤ gb201) := ⟨h7_⟩
         have n8_ : Aside0 (gb181 ≠ gb201) := ⟨h8_⟩
         have n9_ : Aside0 (gb201 ≠ gb181) := ⟨h9_⟩
         have n10_ : Aside0 (gb182 ≠ gb201) := ⟨h10_⟩
         have n11_ : Aside0 (gb201 ≠ gb182) := ⟨h11_⟩
         have n12_ : Aside0 (gb202 ≠ gb201) := ⟨h12_⟩
         have n13_ : Aside0 (gb201 ≠ gb202) := ⟨h13_⟩
         have n14_ : Aside0 (w.heap.size ≤ gb202) := ⟨h14_⟩
         have n15_ : Aside0 (w.heap.size ≤ gb202) := ⟨h15_⟩
         have n16_ : Aside0 (gb181 ≠ gb202) := ⟨h16_⟩
         have n17_ : Aside0 (gb202 ≠ gb181) := ⟨h17_⟩
         have n18_ : Aside0 (gb182 ≠ gb202) := ⟨h18_⟩
         have n19_ : Aside0 (gb202 ≠ gb182) := ⟨h19_⟩
         have n20_ : Aside0 (Below w.heap.size w w23) := ⟨h20_⟩
         clear BK181
         clear BK182
         clear HB
         clear h0_ h1_ h2_ h3_ h4_ h5_ h6_ h7_ h8_ h9_ h10_ h11_ h12_ h13_ h14_ h15_ h16_ h17_ h18_ h19_ h20_
         have HO188 := n0_
         have HO191 := n1_
         have BK181 := n2_
         have BK182 := n3_
         have BK201 := n4_
         have BK202 := n5_
         have GW201 := n6_
         have GE201 := n7_
         have NB181_201 := n8_
         have NB201_181 := n9_
         have NB182_201 := n10_
         have NB201_182 := n11_
         have NB202_201 := n12_
         have NB201_202 := n13_
         have GW202 := n14_
         have GE202 := n15_
         have NB181_202 := n16_
         have NB202_181 := n17_
         have NB182_202 := n18_
         have NB202_182 := n19_
         have HB := n20_
         clear n0_ n1_ n2_ n3_ n4_ n5_ n6_ n7_ n8_ n9_ n10_ n11_ n12_ n13_ n14_ n15_ n16_ n17_ n18_ n19_ n20_
         have hHeld : w23.cell? ⟨gb181, 0, none⟩ = some (.string a0_0) ∧ w23.cell? ⟨gb181, 1, none⟩ = some (.string a0_1) ∧ w23.cell? ⟨gb181, 2, none⟩ = some (.string a0_2) ∧ w23.cell? ⟨gb181, 3, none⟩ = some (.slice A0_3 l0_3.length c0_3) ∧ w23.cell? ⟨gb181, 4, none⟩ = some (.slice A0_4 l0_4.length c0_4) ∧ w23.cell? ⟨gb182, 0, none⟩ = some (.string a1_0) ∧ w23.cell? ⟨gb182, 1, none⟩ = some (.string a1_1) ∧ w23.cell? ⟨gb182, 2, none⟩ = some (.string a1_2) ∧ w23.cell? ⟨gb182, 3, none⟩ = some (.slice A1_3 l1_3.length c1_3) ∧ w23.cell? ⟨gb182, 4, none⟩ = some (.slice A1_4 l1_4.length c1_4) := hS_
         refine norm_ (a' := ?_) ?_ ?_
         rotate_left
         ·
          simp only [putAll, Act.put, l', m', n']
          rfl
         refine one_ (i := 3) (N := some 11) #[Y,Y,Y,Y,Y,Y,Z,Z] rfl rfl (one_of HT_.out (by kernel_rfl)) (by decide) (fun K hK => ?_)
         refine goes_ Tryz.func5 (by kernel_rfl) rfl #[.agg #[.string a1_0, .string a1_1, .string a1_2, .slice A1_3 l1_3.length c1_3, .slice A1_4 l1_4.length c1_4]] (by rfl) rfl rfl (by (try simp only [o', p', q']); first | done | rfl | (simp only [r', s']; rfl)) ?_
         with_reducible refine (fanlightplain_CopyTree.calls k a1_0 a1_1 a1_2 _ _ l1_3 _ _ l1_4 t192 t193 t194 t195 t198 _ ?side1 ?side2 ?side3 ?side4 A4.out).mono ?_
         (case side1 => exact Kd.eC HR1_3 HB)
         (case side2 => exact HC1_3.out)
         (case side3 => exact Kd.eC HR1_4 HB)
         (case side4 => exact HC1_4.out)
         rintro e w24 ⟨v196, v199, rfl, ho0, ho1, hb⟩
         refine ⟨_, rfl, ?_⟩
         have n0_ := u' (Kd.R_elder' (Kd.eR HO188) (Kd.R_base ho0) hb)
         have n1_ := u' (f' (Kd.R_told (Kd.R_told (Kd.R_old (Kd.eR HO191) hb) (Kd.R_base ho0)) (Kd.R_base ho1)) (fun _ h_ => h_.1))
         have n2_ := u' (Kd.R_lower (Kd.R_new' ho0 (Kd.R_lt (Kd.eR HO188))) (e' (eH HB)))
         have n3_ := u' (Kd.R_lower (Kd.R_newB (Kd.R_newB (Kd.R_newB (Kd.R_newB (Kd.R_new' (Kd.R_new' ho1 (Kd.R_lt (Kd.eR HO188))) (Kd.R_lt (Kd.eR HO191))) (g := gb181) (o := .cells #[.string a0_0, .string a0_1, .string a0_2, .slice A0_3 l0_3.length c0_3, .slice A0_4 l0_4.length c0_4] 25 (0, 0)) (eB BK181)) (g := gb182) (o := .cells #[.string a1_0, .string a1_1, .string a1_2, .slice A1_3 l1_3.length c1_3, .slice A1_4 l1_4.length c1_4] 25 (0, 0)) (eB BK182)) (g := gb201) (o := .cells #[.string (⟨#[]⟩ : ByteArray), .string (⟨#[]⟩ : ByteArray), .string (⟨#[]⟩ : ByteArray), .slice none 0 0, .slice none 0 0] 25 (0, 0)) (eB BK201)) (g := gb202) (o := .cells #[.string (⟨#[]⟩ : ByteArray), .string (⟨#[]⟩ : ByteArray), .string (⟨#[]⟩ : ByteArray), .slice none 0 0, .slice none 0 0] 25 (0, 0)) (eB BK202)) (e' (eH HB)))
         have n4_ := u' (c' (g := gb181) (o := .cells #[.string a0_0, .string a0_1, .string a0_2, .slice A0_3 l0_3.length c0_3, .slice A0_4 l0_4.length c0_4] 25 (0, 0)) (eB BK181) hb)
         have n5_ := u' (c' (g := gb182) (o := .cells #[.string a1_0, .string a1_1, .string a1_2, .slice A1_3 l1_3.length c1_3, .slice A1_4 l1_4.length c1_4] 25 (0, 0)) (eB BK182) hb)
         have n6_ := u' (c' (g := gb201) (o := .cells #[.string (⟨#[]⟩ : ByteArray), .string (⟨#[]⟩ : ByteArray), .string (⟨#[]⟩ : ByteArray), .slice none 0 0, .slice none 0 0] 25 (0, 0)) (eB BK201) hb)
         have n7_ := u' (c' (g := gb202) (o := .cells #[.string (⟨#[]⟩ : ByteArray), .string (⟨#[]⟩ : ByteArray), .string (⟨#[]⟩ : ByteArray), .slice none 0 0, .slice none 0 0] 25 (0, 0)) (eB BK202) hb)
         have n8_ := u' (g' (eH HB) hb)
         clear HO188
         clear HO191
         clear BK181
         clear BK182
         clear BK201
         clear BK202
         clear HB
         have HO188 := n0_
         have HO191 := n1_
         have HO197 := n2_
         have HO200 := n3_
         have BK181 := n4_
         have BK182 := n5_
         have BK201 := n6_
         have BK202 := n7_
         have HB := n8_
         clear n0_ n1_ n2_ n3_ n4_ n5_ n6_ n7_ n8_
         (try clear hb)
         (try clear hb2)
         (try clear hk)
         (try clear hi)
         (try clear ho0)
         (try clear ho1)
         refine hK.out _ _ ⟨(b' BK181.out 0).trans rfl, (b' BK181.out 1).trans rfl, (b' BK181.out 2).trans rfl, (b' BK181.out 3).trans rfl, (b' BK181.out 4).trans rfl, (b' BK182.out 0).trans rfl, (b' BK182.out 1).trans rfl, (b' BK182.out 2).trans rfl, (b' BK182.out 3).trans rfl, (b' BK182.out 4).trans rfl⟩ (fun hHeld => ?_)
         clear hK K
         refine norm_ (a' := ?_) ?_ ?_
         rotate_left
         ·
          show Act.put _ (some 11) _ = _
          simp only [Act.put, l', m', n', i64_w, i32_w]
          rfl
         exact norm_ (by first | (simp only [putAll, Act.put, l', m', n']; done) | (simp only [putAll, Act.put, l', m', n']; rfl)) (hJ1_3_4_5 (v187, v190, v196, v199, gb201, gb202) _ ⟨hHeld, (Kd.kR (f' HO188.out (fun _ hk => hk.2))), (Kd.kR (f' HO191.out (fun _ hk => ⟨hk.1.1.1, ⟨hk.1.2, ⟨hk.2, ⟨hk.1.1.2.1, ⟨hk.1.1.2.2.1, ⟨hk.1.1.2.2.2.1, hk.1.1.2.2.2.2⟩⟩⟩⟩⟩⟩))), (Kd.kR (f' HO197.out (fun _ hk => hk.2))), (Kd.kR (f' HO200.out (fun _ hk => ⟨hk.1.1.1.1.1.2, ⟨hk.1.1.1.1.2, ⟨hk.1.1.1.1.1.1, ⟨hk.1.1.1.2, ⟨hk.1.1.2, ⟨hk.1.2, hk.2⟩⟩⟩⟩⟩⟩))), (eB BK181), (eB BK182), (eB BK201), (eB BK202), GW201.out, GE201.out, NB181_201.out, NB201_181.out, NB182_201.out, NB201_182.out, NB202_201.out, NB201_202.out, GW202.out, GE202.out, NB181_202.out, NB202_181.out, NB182_202.out, NB202_182.out, (eH HB)⟩)
       ·
        skip
        rintro ⟨v187, v190, v196, v199, gb202⟩ w23 ⟨hS_, h0_, h1_, h2_, h3_, h4_, h5_, h6_, h7_, h8_, h9_, h10_, h11_, h12_, h13_⟩
        have n0_ : Aside0 (Kd.R k91 91 w23 w.heap.size (fun k_ => some k_ ≠ (v196 : Value).ownBlock) v187 t186) := ⟨h0_⟩
        have n1_ : Aside0 (Kd.R k25 25 w23 w.heap.size (fun k_ => some k_ ≠ (v187 : Value).ownBlock ∧ some k_ ≠ (v196 : Value).ownBlock ∧ some k_ ≠ (v199 : Value).ownBlock ∧ k_ ≠ gb181 ∧ k_ ≠ gb182 ∧ k_ ≠ gb202) v190 t189) := ⟨h1_⟩
        have n2_ : Aside0 (Kd.R k91 91 w23 w.heap.size (fun k_ => some k_ ≠ (v187 : Value).ownBlock) v196 t195) := ⟨h2_⟩
        have n3_ : Aside0 (Kd.R k25 25 w23 w.heap.size (fun k_ => some k_ ≠ (v187 : Value).ownBlock ∧ some k_ ≠ (v190 : Value).ownBlock ∧ some k_ ≠ (v196 : Value).ownBlock ∧ k_ ≠ gb181 ∧ k_ ≠ gb182 ∧ k_ ≠ gb202) v199 t198) := ⟨h3_⟩
        have n4_ : Aside0 (w23.heap[gb181]? = some (.cells #[.string a0_0, .string a0_1, .string a0_2, .slice A0_3 l0_3.length c0_3, .slice A0_4 l0_4.length c0_4] 25 (0, 0))) := ⟨h4_⟩
        have n5_ : Aside0 (w23.heap[gb182]? = some (.cells #[.string a1_0, .string a1_1, .string a1_2, .slice A1_3 l1_3.length c1_3, .slice A1_4 l1_4.length c1_4] 25 (0, 0))) := ⟨h5_⟩
        have n6_ : Aside0 (w23.heap[gb202]? = some (.cells #[.string (⟨#[]⟩ : ByteArray), .string (⟨#[]⟩ : ByteArray), .string (⟨#[]⟩ : ByteArray), .slice none 0 0, .slice none 0 0] 25 (0, 0))) := ⟨h6_⟩
        have n7_ : Aside0 (w.heap.size ≤ gb202) := ⟨h7_⟩
        have n8_ : Aside0 (w.heap.size ≤ gb202) := ⟨h8_⟩
        have n9_ : Aside0 (gb181 ≠ gb202) := ⟨h9_⟩
        have n10_ : Aside0 (gb202 ≠ gb181) := ⟨h10_⟩
        have n11_ : Aside0 (gb182 ≠ gb202) := ⟨h11_⟩
        have n12_ : Aside0 (gb202 ≠ gb182) := ⟨h12_⟩
        have n13_ : Aside0 (Below w.heap.size w w23) := ⟨h13_⟩
        clear BK181
        clear BK182
        clear HB
        clear h0_ h1_ h2_ h3_ h4_ h5_ h6_ h7_ h8_ h9_ h10_ h11_ h12_ h13_
        have HO188 := n0_
        have HO191 := n1_
        have HO197 := n2_
        have HO200 := n3_
        have BK181 := n4_
        have BK182 := n5_
        have BK202 := n6_
        have GW202 := n7_
        have GE202 := n8_
        have NB181_202 := n9_
        have NB202_181 := n10_
        have NB182_202 := n11_
        have NB202_182 := n12_
        have HB := n13_
        clear n0_ n1_ n2_ n3_ n4_ n5_ n6_ n7_ n8_ n9_ n10_ n11_ n12_ n13_
        have hHeld : w23.cell? ⟨gb181, 0, none⟩ = some (.string a0_0) ∧ w23.cell? ⟨gb181, 1, none⟩ = some (.string a0_1) ∧ w23.cell? ⟨gb181, 2, none⟩ = some (.string a0_2) ∧ w23.cell? ⟨gb181, 3, none⟩ = some (.slice A0_3 l0_3.length c0_3) ∧ w23.cell? ⟨gb181, 4, none⟩ = some (.slice A0_4 l0_4.length c0_4) ∧ w23.cell? ⟨gb182, 0, none⟩ = some (.string a1_0) ∧ w23.cell? ⟨gb182, 1, none⟩ = some (.string a1_1) ∧ w23.cell? ⟨gb182, 2, none⟩ = some (.string a1_2) ∧ w23.cell? ⟨gb182, 3, none⟩ = some (.slice A1_3 l1_3.length c1_3) ∧ w23.cell? ⟨gb182, 4, none⟩ = some (.slice A1_4 l1_4.length c1_4) := hS_
        refine norm_ (a' := ?_) ?_ ?_
        rotate_left
        ·
         simp only [putAll, Act.put, l', m', n']
         rfl
        refine one_ (i := 4) (N := some 5) #[Y,Y,Y,Y,Y,Y,Z,Z] rfl rfl (one_of HT_.out (by kernel_rfl)) (by decide) (fun K hK => ?_)
        refine box_step ?hg (N := 5) ?hd (cs := #[.string (⟨#[]⟩ : ByteArray), .string (⟨#[]⟩ : ByteArray), .string (⟨#[]⟩ : ByteArray), .slice none 0 0, .slice none 0 0]) (t := 25) ?hr ?_; (case hd => rfl); (case hg => rfl); (case hr => first | (go_simp; done) | (go_simp; rfl))
        intro gb201 hg w24 hbox hb
        have n0_ := u' (d' (Kd.eR HO188) hb)
        have n1_ := u' (d' (Kd.R_elderB (Kd.eR HO191) gb201 (Nat.le_of_eq hg.symm)) hb)
        have n2_ := u' (d' (Kd.eR HO197) hb)
        have n3_ := u' (d' (Kd.R_elderB (Kd.eR HO200) gb201 (Nat.le_of_eq hg.symm)) hb)
        have n4_ := u' (c' (g := gb181) (o := .cells #[.string a0_0, .string a0_1, .string a0_2, .slice A0_3 l0_3.length c0_3, .slice A0_4 l0_4.length c0_4] 25 (0, 0)) (eB BK181) hb)
        have n5_ := u' (c' (g := gb182) (o := .cells #[.string a1_0, .string a1_1, .string a1_2, .slice A1_3 l1_3.length c1_3, .slice A1_4 l1_4.length c1_4] 25 (0, 0)) (eB BK182) hb)
        have n6_ := u' (c' (g := gb202) (o := .cells #[.string (⟨#[]⟩ : ByteArray), .string (⟨#[]⟩ : ByteArray), .string (⟨#[]⟩ : ByteArray), .slice none 0 0, .slice none 0 0] 25 (0, 0)) (eB BK202) hb)
        have n7_ := u' (g' (eH HB) hb)
        have n8_ := u' (hbox)
        have n9_ := u' ((by rw [hg]; exact (e' (eH HB)) : w.heap.size ≤ gb201))
        have n10_ := u' ((by rw [hg]; exact (e' (eH HB)) : w.heap.size ≤ gb201))
        have n11_ := u' ((by rw [hg]; exact Nat.ne_of_lt (blk_lt (g := gb181) (o := .cells #[.string a0_0, .string a0_1, .string a0_2, .slice A0_3 l0_3.length c0_3, .slice A0_4 l0_4.length c0_4] 25 (0, 0)) (eB BK181)) : gb181 ≠ gb201))
        have n12_ := u' ((by rw [hg]; exact Nat.ne_of_gt (blk_lt (g := gb181) (o := .cells #[.string a0_0, .string a0_1, .string a0_2, .slice A0_3 l0_3.length c0_3, .slice A0_4 l0_4.length c0_4] 25 (0, 0)) (eB BK181)) : gb201 ≠ gb181))
        have n13_ := u' ((by rw [hg]; exact Nat.ne_of_lt (blk_lt (g := gb182) (o := .cells #[.string a1_0, .string a1_1, .string a1_2, .slice A1_3 l1_3.length c1_3, .slice A1_4 l1_4.length c1_4] 25 (0, 0)) (eB BK182)) : gb182 ≠ gb201))
        have n14_ := u' ((by rw [hg]; exact Nat.ne_of_gt (blk_lt (g := gb182) (o := .cells #[.string a1_0, .string a1_1, .string a1_2, .slice A1_3 l1_3.length c1_3, .slice A1_4 l1_4.length c1_4] 25 (0, 0)) (eB BK182)) : gb201 ≠ gb182))
        have n15_ := u' ((by rw [hg]; exact Nat.ne_of_lt (blk_lt (g := gb202) (o := .cells #[.string (⟨#[]⟩ : ByteArray), .string (⟨#[]⟩ : ByteArray), .string (⟨#[]⟩ : ByteArray), .slice none 0 0, .slice none 0 0] 25 (0, 0)) (eB BK202)) : gb202 ≠ gb201))
        have n16_ := u' ((by rw [hg]; exact Nat.ne_of_gt (blk_lt (g := gb202) (o := .cells #[.string (⟨#[]⟩ : ByteArray), .string (⟨#[]⟩ : ByteArray), .string (⟨#[]⟩ : ByteArray), .slice none 0 0, .slice none 0 0] 25 (0, 0)) (eB BK202)) : gb201 ≠ gb202))
        clear HO188
        clear HO191
        clear HO197
        clear HO200
        clear BK181
        clear BK182
        clear BK202
        clear HB
        have HO188 := n0_
        have HO191 := n1_
        have HO197 := n2_
        have HO200 := n3_
        have BK181 := n4_
        have BK182 := n5_
        have BK202 := n6_
        have HB := n7_
        have BK201 := n8_
        have GW201 := n9_
        have GE201 := n10_
        have NB181_201 := n11_
        have NB201_181 := n12_
        have NB182_201 := n13_
        have NB201_182 := n14_
        have NB202_201 := n15_
        have NB201_202 := n16_
        clear n0_ n1_ n2_ n3_ n4_ n5_ n6_ n7_ n8_ n9_ n10_ n11_ n12_ n13_ n14_ n15_ n16_
        clear hb hbox hg
        refine hK.out _ _ ⟨(b' BK181.out 0).trans rfl, (b' BK181.out 1).trans rfl, (b' BK181.out 2).trans rfl, (b' BK181.out 3).trans rfl, (b' BK181.out 4).trans rfl, (b' BK182.out 0).trans rfl, (b' BK182.out 1).trans rfl, (b' BK182.out 2).trans rfl, (b' BK182.out 3).trans rfl, (b' BK182.out 4).trans rfl⟩ (fun hHeld => ?_)
        clear hK K
        refine norm_ (a' := ?_) ?_ ?_
        rotate_left
        ·
         show Act.put _ (some 5) _ = _
         simp only [Act.put, l', m', n', i64_w, i32_w]
         rfl
        exact norm_ (by first | (simp only [putAll, Act.put, l', m', n']; done) | (simp only [putAll, Act.put, l', m', n']; rfl)) (hJ1_3_4_5 (v187, v190, v196, v199, gb201, gb202) _ ⟨hHeld, (Kd.eR HO188), (Kd.kR (f' HO191.out (fun _ hk => ⟨hk.1.1, ⟨hk.1.2.1, ⟨hk.1.2.2.1, ⟨hk.1.2.2.2.1, ⟨hk.1.2.2.2.2.1, ⟨hk.2, hk.1.2.2.2.2.2⟩⟩⟩⟩⟩⟩))), (Kd.eR HO197), (Kd.kR (f' HO200.out (fun _ hk => ⟨hk.1.1, ⟨hk.1.2.1, ⟨hk.1.2.2.1, ⟨hk.1.2.2.2.1, ⟨hk.1.2.2.2.2.1, ⟨hk.2, hk.1.2.2.2.2.2⟩⟩⟩⟩⟩⟩))), (eB BK181), (eB BK182), (eB BK201), (eB BK202), GW201.out, GE201.out, NB181_201.out, NB201_181.out, NB182_201.out, NB201_182.out, NB202_201.out, NB201_202.out, GW202.out, GE202.out, NB181_202.out, NB202_181.out, NB182_202.out, NB202_182.out, (eH HB)⟩)
      ·
       skip
       rintro ⟨v187, v190, v196, v199, gb201⟩ w23 ⟨hS_, h0_, h1_, h2_, h3_, h4_, h5_, h6_, h7_, h8_, h9_, h10_, h11_, h12_, h13_⟩
       have n0_ : Aside0 (Kd.R k91 91 w23 w.heap.size (fun k_ => some k_ ≠ (v196 : Value).ownBlock) v187 t186) := ⟨h0_⟩
       have n1_ : Aside0 (Kd.R k25 25 w23 w.heap.size (fun k_ => some k_ ≠ (v187 : Value).ownBlock ∧ some k_ ≠ (v196 : Value).ownBlock ∧ some k_ ≠ (v199 : Value).ownBlock ∧ k_ ≠ gb181 ∧ k_ ≠ gb182 ∧ k_ ≠ gb201) v190 t189) := ⟨h1_⟩
       have n2_ : Aside0 (Kd.R k91 91 w23 w.heap.size (fun k_ => some k_ ≠ (v187 : Value).ownBlock) v196 t195) := ⟨h2_⟩
       have n3_ : Aside0 (Kd.R k25 25 w23 w.heap.size (fun k_ => some k_ ≠ (v187 : Value).ownBlock ∧ some k_ ≠ (v190 : Value).ownBlock ∧ some k_ ≠ (v196 : Value).ownBlock ∧ k_ ≠ gb181 ∧ k_ ≠ gb182 ∧ k_ ≠ gb201) v199 t198) := ⟨h3_⟩
       have n4_ : Aside0 (w23.heap[gb181]? = some (.cells #[.string a0_0, .string a0_1, .string a0_2, .slice A0_3 l0_3.length c0_3, .slice A0_4 l0_4.length c0_4] 25 (0, 0))) := ⟨h4_⟩
       have n5_ : Aside0 (w23.heap[gb182]? = some (.cells #[.string a1_0, .string a1_1, .string a1_2, .slice A1_3 l1_3.length c1_3, .slice A1_4 l1_4.length c1_4] 25 (0, 0))) := ⟨h5_⟩
       have n6_ : Aside0 (w23.heap[gb201]? = some (.cells #[.string (⟨#[]⟩ : ByteArray), .string (⟨#[]⟩ : ByteArray), .string (⟨#[]⟩ : ByteArray), .slice none 0 0, .slice none 0 0] 25 (0, 0))) := ⟨h6_⟩
       have n7_ : Aside0 (w.heap.size ≤ gb201) := ⟨h7_⟩
       have n8_ : Aside0 (w.heap.size ≤ gb201) := ⟨h8_⟩
       have n9_ : Aside0 (gb181 ≠ gb201) := ⟨h9_⟩
       have n10_ : Aside0 (gb201 ≠ gb181) := ⟨h10_⟩
       have n11_ : Aside0 (gb182 ≠ gb201) := ⟨h11_⟩
       have n12_ : Aside0 (gb201 ≠ gb182) := ⟨h12_⟩
       have n13_ : Aside0 (Below w.heap.size w w23) := ⟨h13_⟩
       clear BK181
       clear BK182
       clear HB
       clear h0_ h1_ h2_ h3_ h4_ h5_ h6_ h7_ h8_ h9_ h10_ h11_ h12_ h13_
       have HO188 := n0_
       have HO191 := n1_
       have HO197 := n2_
       have HO200 := n3_
       have BK181 := n4_
       have BK182 := n5_
       have BK201 := n6_
       have GW201 := n7_
       have GE201 := n8_
       have NB181_201 := n9_
       have NB201_181 := n10_
       have NB182_201 := n11_
       have NB201_182 := n12_
       have HB := n13_
       clear n0_ n1_ n2_ n3_ n4_ n5_ n6_ n7_ n8_ n9_ n10_ n11_ n12_ n13_
       have hHeld : w23.cell? ⟨gb181, 0, none⟩ = some (.string a0_0) ∧ w23.cell? ⟨gb181, 1, none⟩ = some (.string a0_1) ∧ w23.cell? ⟨gb181, 2, none⟩ = some (.string a0_2) ∧ w23.cell? ⟨gb181, 3, none⟩ = some (.slice A0_3 l0_3.length c0_3) ∧ w23.cell? ⟨gb181, 4, none⟩ = some (.slice A0_4 l0_4.length c0_4) ∧ w23.cell? ⟨gb182, 0, none⟩ = some (.string a1_0) ∧ w23.cell? ⟨gb182, 1, none⟩ = some (.string a1_1) ∧ w23.cell? ⟨gb182, 2, none⟩ = some (.string a1_2) ∧ w23.cell? ⟨gb182, 3, none⟩ = some (.slice A1_3 l1_3.length c1_3) ∧ w23.cell? ⟨gb182, 4, none⟩ = some (.slice A1_4 l1_4.length c1_4) := hS_
       refine norm_ (a' := ?_) ?_ ?_
       rotate_left
       ·
        simp only [putAll, Act.put, l', m', n']
        rfl
       refine one_ (i := 5) (N := some 6) #[Y,Y,Y,Y,Y,Y,Z,Z] rfl rfl (one_of HT_.out (by kernel_rfl)) (by decide) (fun K hK => ?_)
       refine box_step ?hg (N := 6) ?hd (cs := #[.string (⟨#[]⟩ : ByteArray), .string (⟨#[]⟩ : ByteArray), .string (⟨#[]⟩ : ByteArray), .slice none 0 0, .slice none 0 0]) (t := 25) ?hr ?_; (case hd => rfl); (case hg => rfl); (case hr => first | (go_simp; done) | (go_simp; rfl))
       intro gb202 hg w24 hbox hb
       have n0_ := u' (d' (Kd.eR HO188) hb)
       have n1_ := u' (d' (Kd.R_elderB (Kd.eR HO191) gb202 (Nat.le_of_eq hg.symm)) hb)
       have n2_ := u' (d' (Kd.eR HO197) hb)
       have n3_ := u' (d' (Kd.R_elderB (Kd.eR HO200) gb202 (Nat.le_of_eq hg.symm)) hb)
       have n4_ := u' (c' (g := gb181) (o := .cells #[.string a0_0, .string a0_1, .string a0_2, .slice A0_3 l0_3.length c0_3, .slice A0_4 l0_4.length c0_4] 25 (0, 0)) (eB BK181) hb)
       have n5_ := u' (c' (g := gb182) (o := .cells #[.string a1_0, .string a1_1, .string a1_2, .slice A1_3 l1_3.length c1_3, .slice A1_4 l1_4.length c1_4] 25 (0, 0)) (eB BK182) hb)
       have n6_ := u' (c' (g := gb201) (o := .cells #[.string (⟨#[]⟩ : ByteArray), .string (⟨#[]⟩ : ByteArray), .string (⟨#[]⟩ : ByteArray), .slice none 0 0, .slice none 0 0] 25 (0, 0)) (eB BK201) hb)
       have n7_ := u' (g' (eH HB) hb)
       have n8_ := u' (hbox)
       have n9_ := u' ((by rw [hg]; exact (e' (eH HB)) : w.heap.size ≤ gb202))
       have n10_ := u' ((by rw [hg]; exact (e' (eH HB)) : w.heap.size ≤ gb202))
       have n11_ := u' ((by rw [hg]; exact Nat.ne_of_lt (blk_lt (g := gb181) (o := .cells #[.string a0_0, .string a0_1, .string a0_2, .slice A0_3 l0_3.length c0_3, .slice A0_4 l0_4.length c0_4] 25 (0, 0)) (eB BK181)) : gb181 ≠ gb202))
       have n12_ := u' ((by rw [hg]; exact Nat.ne_of_gt (blk_lt (g := gb181) (o := .cells #[.string a0_0, .string a0_1, .string a0_2, .slice A0_3 l0_3.length c0_3, .slice A0_4 l0_4.length c0_4] 25 (0, 0)) (eB BK181)) : gb202 ≠ gb181))
       have n13_ := u' ((by rw [hg]; exact Nat.ne_of_lt (blk_lt (g := gb182) (o := .cells #[.string a1_0, .string a1_1, .string a1_2, .slice A1_3 l1_3.length c1_3, .slice A1_4 l1_4.length c1_4] 25 (0, 0)) (eB BK182)) : gb182 ≠ gb202))
       have n14_ := u' ((by rw [hg]; exact Nat.ne_of_gt (blk_lt (g := gb182) (o := .cells #[.string a1_0, .string a1_1, .string a1_2, .slice A1_3 l1_3.length c1_3, .slice A1_4 l1_4.length c1_4] 25 (0, 0)) (eB BK182)) : gb202 ≠ gb182))
       have n15_ := u' ((by rw [hg]; exact Nat.ne_of_lt (blk_lt (g := gb201) (o := .cells #[.string (⟨#[]⟩ : ByteArray), .string (⟨#[]⟩ : ByteArray), .string (⟨#[]⟩ : ByteArray), .slice none 0 0, .slice none 0 0] 25 (0, 0)) (eB BK201)) : gb201 ≠ gb202))
       have n16_ := u' ((by rw [hg]; exact Nat.ne_of_gt (blk_lt (g := gb201) (o := .cells #[.string (⟨#[]⟩ : ByteArray), .string (⟨#[]⟩ : ByteArray), .string (⟨#[]⟩ : ByteArray), .slice none 0 0, .slice none 0 0] 25 (0, 0)) (eB BK201)) : gb202 ≠ gb201))
       clear HO188
       clear HO191
       clear HO197
       clear HO200
       clear BK181
       clear BK182
       clear BK201
       clear HB
       have HO188 := n0_
       have HO191 := n1_
       have HO197 := n2_
       have HO200 := n3_
       have BK181 := n4_
       have BK182 := n5_
       have BK201 := n6_
       have HB := n7_
       have BK202 := n8_
       have GW202 := n9_
       have GE202 := n10_
       have NB181_202 := n11_
       have NB202_181 := n12_
       have NB182_202 := n13_
       have NB202_182 := n14_
       have NB201_202 := n15_
       have NB202_201 := n16_
       clear n0_ n1_ n2_ n3_ n4_ n5_ n6_ n7_ n8_ n9_ n10_ n11_ n12_ n13_ n14_ n15_ n16_
       clear hb hbox hg
       refine hK.out _ _ ⟨(b' BK181.out 0).trans rfl, (b' BK181.out 1).trans rfl, (b' BK181.out 2).trans rfl, (b' BK181.out 3).trans rfl, (b' BK181.out 4).trans rfl, (b' BK182.out 0).trans rfl, (b' BK182.out 1).trans rfl, (b' BK182.out 2).trans rfl, (b' BK182.out 3).trans rfl, (b' BK182.out 4).trans rfl⟩ (fun hHeld => ?_)
       clear hK K
       refine norm_ (a' := ?_) ?_ ?_
       rotate_left
       ·
        show Act.put _ (some 6) _ = _
        simp only [Act.put, l', m', n', i64_w, i32_w]
        rfl
       exact norm_ (by first | (simp only [putAll, Act.put, l', m', n']; done) | (simp only [putAll, Act.put, l', m', n']; rfl)) (hJ1_3_4_5 (v187, v190, v196, v199, gb201, gb202) _ ⟨hHeld, (Kd.eR HO188), (Kd.kR (f' HO191.out (fun _ hk => ⟨hk.1.1, ⟨hk.1.2.1, ⟨hk.1.2.2.1, ⟨hk.1.2.2.2.1, ⟨hk.1.2.2.2.2.1, ⟨hk.1.2.2.2.2.2, hk.2⟩⟩⟩⟩⟩⟩))), (Kd.eR HO197), (Kd.kR (f' HO200.out (fun _ hk => ⟨hk.1.1, ⟨hk.1.2.1, ⟨hk.1.2.2.1, ⟨hk.1.2.2.2.1, ⟨hk.1.2.2.2.2.1, ⟨hk.1.2.2.2.2.2, hk.2⟩⟩⟩⟩⟩⟩))), (eB BK181), (eB BK182), (eB BK201), (eB BK202), GW201.out, GE201.out, NB181_201.out, NB201_181.out, NB182_201.out, NB201_182.out, NB202_201.out, NB201_202.out, GW202.out, GE202.out, NB181_202.out, NB202_181.out, NB182_202.out, NB202_182.out, (eH HB)⟩)
     rintro ⟨v187, v190, v196, v199, gb201, gb202⟩ w24 ⟨hS_, h0_, h1_, h2_, h3_, h4_, h5_, h6_, h7_, h8_, h9_, h10_, h11_, h12_, h13_, h14_, h15_, h16_, h17_, h18_, h19_, h20_, h21_, h22_⟩
     have n0_ : Aside0 (Kd.R k91 91 w24 w.heap.size (fun k_ => some k_ ≠ (v196 : Value).ownBlock) v187 t186) := ⟨h0_⟩
     have n1_ : Aside0 (Kd.R k25 25 w24 w.heap.size (fun k_ => some k_ ≠ (v187 : Value).ownBlock ∧ some k_ ≠ (v196 : Value).ownBlock ∧ some k_ ≠ (v199 : Value).ownBlock ∧ k_ ≠ gb181 ∧ k_ ≠ gb182 ∧ k_ ≠ gb201 ∧ k_ ≠ gb202) v190 t189) := ⟨h1_⟩
     have n2_ : Aside0 (Kd.R k91 91 w24 w.heap.size (fun k_ => some k_ ≠ (v187 : Value).ownBlock) v196 t195) := ⟨h2_⟩
     have n3_ : Aside0 (Kd.R k25 25 w24 w.heap.size (fun k_ => some k_ ≠ (v187 : Value).ownBlock ∧ some k_ ≠ (v190 : Value).ownBlock ∧ some k_ ≠ (v196 : Value).ownBlock ∧ k_ ≠ gb181 ∧ k_ ≠ gb182 ∧ k_ ≠ gb201 ∧ k_ ≠ gb202) v199 t198) := ⟨h3_⟩
     have n4_ : Aside0 (w24.heap[gb181]? = some (.cells #[.string a0_0, .string a0_1, .string a0_2, .slice A0_3 l0_3.length c0_3, .slice A0_4 l0_4.length c0_4] 25 (0, 0))) := ⟨h4_⟩
     have n5_ : Aside0 (w24.heap[gb182]? = some (.cells #[.string a1_0, .string a1_1, .string a1_2, .slice A1_3 l1_3.length c1_3, .slice A1_4 l1_4.length c1_4] 25 (0, 0))) := ⟨h5_⟩
     have n6_ : Aside0 (w24.heap[gb201]? = some (.cells #[.string (⟨#[]⟩ : ByteArray), .string (⟨#[]⟩ : ByteArray), .string (⟨#[]⟩ : ByteArray), .slice none 0 0, .slice none 0 0] 25 (0, 0))) := ⟨h6_⟩
     have n7_ : Aside0 (w24.heap[gb202]? = some (.cells #[.string (⟨#[]⟩ : ByteArray), .string (⟨#[]⟩ : ByteArray), .string (⟨#[]⟩ : ByteArray), .slice none 0 0, .slice none 0 0] 25 (0, 0))) := ⟨h7_⟩
     have n8_ : Aside0 (w.heap.size ≤ gb201) := ⟨h8_⟩
     have n9_ : Aside0 (w.heap.size ≤ gb201) := ⟨h9_⟩
     have n10_ : Aside0 (gb181 ≠ gb201) := ⟨h10_⟩
     have n11_ : Aside0 (gb201 ≠ gb181) := ⟨h11_⟩
     have n12_ : Aside0 (gb182 ≠ gb201) := ⟨h12_⟩
     have n13_ : Aside0 (gb201 ≠ gb182) := ⟨h13_⟩
     have n14_ : Aside0 (gb202 ≠ gb201) := ⟨h14_⟩
     have n15_ : Aside0 (gb201 ≠ gb202) := ⟨h15_⟩
     have n16_ : Aside0 (w.heap.size ≤ gb202) := ⟨h16_⟩
     have n17_ : Aside0 (w.heap.size ≤ gb202) := ⟨h17_⟩
     have n18_ : Aside0 (gb181 ≠ gb202) := ⟨h18_⟩
     have n19_ : Aside0 (gb202 ≠ gb181) := ⟨h19_⟩
     have n20_ : Aside0 (gb182 ≠ gb202) := ⟨h20_⟩
     have n21_ : Aside0 (gb202 ≠ gb182) := ⟨h21_⟩
     have n22_ : Aside0 (Below w.heap.size w w24) := ⟨h22_⟩
     clear BK181
     clear BK182
     clear HB
     clear h0_ h1_ h2_ h3_ h4_ h5_ h6_ h7_ h8_ h9_ h10_ h11_ h12_ h13_ h14_ h15_ h16_ h17_ h18_ h19_ h20_ h21_ h22_
     have HO188 := n0_
     have HO191 := n1_
     have HO197 := n2_
     have HO200 := n3_
     have BK181 := n4_
     have BK182 := n5_
     have BK201 := n6_
     have BK202 := n7_
     have GW201 := n8_
     have GE201 := n9_
     have NB181_201 := n10_
     have NB201_181 := n11_
     have NB182_201 := n12_
     have NB201_182 := n13_
     have NB202_201 := n14_
     have NB201_202 := n15_
     have GW202 := n16_
     have GE202 := n17_
     have NB181_202 := n18_
     have NB202_181 := n19_
     have NB182_202 := n20_
     have NB202_182 := n21_
     have HB := n22_
     clear n0_ n1_ n2_ n3_ n4_ n5_ n6_ n7_ n8_ n9_ n10_ n11_ n12_ n13_ n14_ n15_ n16_ n17_ n18_ n19_ n20_ n21_ n22_
     have hHeld : w24.cell? ⟨gb181, 0, none⟩ = some (.string a0_0) ∧ w24.cell? ⟨gb181, 1, none⟩ = some (.string a0_1) ∧ w24.cell? ⟨gb181, 2, none⟩ = some (.string a0_2) ∧ w24.cell? ⟨gb181, 3, none⟩ = some (.slice A0_3 l0_3.length c0_3) ∧ w24.cell? ⟨gb181, 4, none⟩ = some (.slice A0_4 l0_4.length c0_4) ∧ w24.cell? ⟨gb182, 0, none⟩ = some (.string a1_0) ∧ w24.cell? ⟨gb182, 1, none⟩ = some (.string a1_1) ∧ w24.cell? ⟨gb182, 2, none⟩ = some (.string a1_2) ∧ w24.cell? ⟨gb182, 3, none⟩ = some (.slice A1_3 l1_3.length c1_3) ∧ w24.cell? ⟨gb182, 4, none⟩ = some (.slice A1_4 l1_4.length c1_4) := hS_
     obtain ⟨Ao28, co28, eo28⟩ := Kd.R_slice HO188.out
     (first | subst eo28 | (injection eo28 with f1_ f2_ f3_; have f4_ := f1_.symm; have f5_ := f3_.symm; clear f1_ f2_ f3_; subst f4_; subst f5_))
     obtain ⟨Ao30, co30, eo30⟩ := Kd.R_slice HO191.out
     (first | subst eo30 | (injection eo30 with f1_ f2_ f3_; have f4_ := f1_.symm; have f5_ := f3_.symm; clear f1_ f2_ f3_; subst f4_; subst f5_))
     obtain ⟨Ao35, co35, eo35⟩ := Kd.R_slice HO197.out
     (first | subst eo35 | (injection eo35 with f1_ f2_ f3_; have f4_ := f1_.symm; have f5_ := f3_.symm; clear f1_ f2_ f3_; subst f4_; subst f5_))
     obtain ⟨Ao37, co37, eo37⟩ := Kd.R_slice HO200.out
     (first | subst eo37 | (injection eo37 with f1_ f2_ f3_; have f4_ := f1_.symm; have f5_ := f3_.symm; clear f1_ f2_ f3_; subst f4_; subst f5_))
     refine norm_ (a' := ?_) ?_ ?_
     rotate_left
     ·
      simp only [putAll, Act.put, l', m', n']
      rfl
     refine one_ (i := 6) (N := none) #[Y,Y,Y,Y,Y,Y,Y,Z] rfl rfl (one_of HT_.out (by kernel_rfl)) (by decide) (fun K hK => ?_)
     have hs25 : w24.cell? ⟨gb201, 0, none⟩ = some (.string (⟨#[]⟩ : ByteArray)) := (b' BK201.out 0).trans rfl
     have hfs25 := blk_frozen BK201.out 0
     have hns25_0 := NB181_201.out
     have hns25_1 := NB182_201.out
     have hns25_3 := NB202_201.out
     have hms25_0 := NB201_181.out
     have hms25_1 := NB201_182.out
     have hms25_3 := NB201_202.out
     have hs26 : w24.cell? ⟨gb201, 1, none⟩ = some (.string (⟨#[]⟩ : ByteArray)) := (b' BK201.out 1).trans rfl
     have hfs26 := blk_frozen BK201.out 1
     have hns26_0 := NB181_201.out
     have hns26_1 := NB182_201.out
     have hns26_3 := NB202_201.out
     have hms26_0 := NB201_181.out
     have hms26_1 := NB201_182.out
     have hms26_3 := NB201_202.out
     have hs27 : w24.cell? ⟨gb201, 2, none⟩ = some (.string (⟨#[]⟩ : ByteArray)) := (b' BK201.out 2).trans rfl
     have hfs27 := blk_frozen BK201.out 2
     have hns27_0 := NB181_201.out
     have hns27_1 := NB182_201.out
     have hns27_3 := NB202_201.out
     have hms27_0 := NB201_181.out
     have hms27_1 := NB201_182.out
     have hms27_3 := NB201_202.out
     have hs29 : w24.cell? ⟨gb201, 3, none⟩ = some (.slice none 0 0) := (b' BK201.out 3).trans rfl
     have hfs29 := blk_frozen BK201.out 3
     have hns29_0 := NB181_201.out
     have hns29_1 := NB182_201.out
     have hns29_3 := NB202_201.out
     have hms29_0 := NB201_181.out
     have hms29_1 := NB201_182.out
     have hms29_3 := NB201_202.out
     have hs31 : w24.cell? ⟨gb201, 4, none⟩ = some (.slice none 0 0) := (b' BK201.out 4).trans rfl
     have hfs31 := blk_frozen BK201.out 4
     have hns31_0 := NB181_201.out
     have hns31_1 := NB182_201.out
     have hns31_3 := NB202_201.out
     have hms31_0 := NB201_181.out
     have hms31_1 := NB201_182.out
     have hms31_3 := NB201_202.out
     refine skip_ (w1 := ?_) (by rfl) rfl ?_ ?_
     rotate_left
     ·
      go_simp
      rfl
     refine hK.out _ _ ⟨((cell_far (p := ⟨gb201, _, none⟩) NB181_201.out _).trans (((cell_far (p := ⟨gb201, _, none⟩) NB181_201.out _).trans (((cell_far (p := ⟨gb201, _, none⟩) NB181_201.out _).trans (((cell_far (p := ⟨gb201, _, none⟩) NB181_201.out _).trans (((cell_far (p := ⟨gb201, _, none⟩) NB181_201.out _).trans (hHeld.1)))))))))), ((cell_far (p := ⟨gb201, _, none⟩) NB181_201.out _).trans (((cell_far (p := ⟨gb201, _, none⟩) NB181_201.out _).trans (((cell_far (p := ⟨gb201, _, none⟩) NB181_201.out _).trans (((cell_far (p := ⟨gb201, _, none⟩) NB181_201.out _).trans (((cell_far (p := ⟨gb201, _, none⟩) NB181_201.out _).trans (hHeld.2.1)))))))))), ((cell_far (p := ⟨gb201, _, none⟩) NB181_201.out _).trans (((cell_far (p := ⟨gb201, _, none⟩) NB181_201.out _).trans (((cell_far (p := ⟨gb201, _, none⟩) NB181_201.out _).trans (((cell_far (p := ⟨gb201, _, none⟩) NB181_201.out _).trans (((cell_far (p := ⟨gb201, _, none⟩) NB181_201.out _).trans (hHeld.2.2.1)))))))))), ((cell_far (p := ⟨gb201, _, none⟩) NB181_201.out _).trans (((cell_far (p := ⟨gb201, _, none⟩) NB181_201.out _).trans (((cell_far (p := ⟨gb201, _, none⟩) NB181_201.out _).trans (((cell_far (p := ⟨gb201, _, none⟩) NB181_201.out _).trans (((cell_far (p := ⟨gb201, _, none⟩) NB181_201.out _).trans (hHeld.2.2.2.1)))))))))), ((cell_far (p := ⟨gb201, _, none⟩) NB181_201.out _).trans (((cell_far (p := ⟨gb201, _, none⟩) NB181_201.out _).trans (((cell_far (p := ⟨gb201, _, none⟩) NB181_201.out _).trans (((cell_far (p := ⟨gb201, _, none⟩) NB181_201.out _).trans (((cell_far (p := ⟨gb201, _, none⟩) NB181_201.out _).trans (hHeld.2.2.2.2.1)))))))))), ((cell_far (p := ⟨gb201, _, none⟩) NB182_201.out _).trans (((cell_far (p := ⟨gb201, _, none⟩) NB182_201.out _).trans (((cell_far (p := ⟨gb201, _, none⟩) NB182_201.out _).trans (((cell_far (p := ⟨gb201, _, none⟩) NB182_201.out _).trans (((cell_far (p := ⟨gb201, _, none⟩) NB182_201.out _).trans (hHeld.2.2.2.2.2.1)))))))))), ((cell_far (p := ⟨gb201, _, none⟩) NB182_201.out _).trans (((cell_far (p := ⟨gb201, _, none⟩) NB182_201.out _).trans (((cell_far (p := ⟨gb201, _, none⟩) NB182_201.out _).trans (((cell_far (p := ⟨gb201, _, none⟩) NB182_201.out _).trans (((cell_far (p := ⟨gb201, _, none⟩) NB182_201.out _).trans (hHeld.2.2.2.2.2.2.1)))))))))), ((cell_far (p := ⟨gb201, _, none⟩) NB182_201.out _).trans (((cell_far (p := ⟨gb201, _, none⟩) NB182_201.out _).trans (((cell_far (p := ⟨gb201, _, none⟩) NB182_201.out _).trans (((cell_far (p := ⟨gb201, _, none⟩) NB182_201.out _).trans (((cell_far (p := ⟨gb201, _, none⟩) NB182_201.out _).trans (hHeld.2.2.2.2.2.2.2.1)))))))))), ((cell_far (p := ⟨gb201, _, none⟩) NB182_201.out _).trans (((cell_far (p := ⟨gb201, _, none⟩) NB182_201.out _).trans (((cell_far (p := ⟨gb201, _, none⟩) NB182_201.out _).trans (((cell_far (p := ⟨gb201, _, none⟩) NB182_201.out _).trans (((cell_far (p := ⟨gb201, _, none⟩) NB182_201.out _).trans (hHeld.2.2.2.2.2.2.2.2.1)))))))))), ((cell_far (p := ⟨gb201, _, none⟩) NB182_201.out _).trans (((cell_far (p := ⟨gb201, _, none⟩) NB182_201.out _).trans (((cell_far (p := ⟨gb201, _, none⟩) NB182_201.out _).trans (((cell_far (p := ⟨gb201, _, none⟩) NB182_201.out _).trans (((cell_far (p := ⟨gb201, _, none⟩) NB182_201.out _).trans (hHeld.2.2.2.2.2.2.2.2.2))))))))))⟩ (fun hHeld => ?_)
     clear hK K
     refine one_ (i := 7) (N := none) #[Y,Y,Y,Y,Y,Y,Y,Y] rfl rfl (one_of HT_.out (by kernel_rfl)) (by decide) (fun K hK => ?_)
     have hs32 : w24.cell? ⟨gb202, 0, none⟩ = some (.string (⟨#[]⟩ : ByteArray)) := (b' BK202.out 0).trans rfl
     have hfs32 := blk_frozen BK202.out 0
     have hns32_0 := NB181_202.out
     have hns32_1 := NB182_202.out
     have hns32_2 := NB201_202.out
     have hms32_0 := NB202_181.out
     have hms32_1 := NB202_182.out
     have hms32_2 := NB202_201.out
     have hs33 : w24.cell? ⟨gb202, 1, none⟩ = some (.string (⟨#[]⟩ : ByteArray)) := (b' BK202.out 1).trans rfl
     have hfs33 := blk_frozen BK202.out 1
     have hns33_0 := NB181_202.out
     have hns33_1 := NB182_202.out
     have hns33_2 := NB201_202.out
     have hms33_0 := NB202_181.out
     have hms33_1 := NB202_182.out
     have hms33_2 := NB202_201.out
     have hs34 : w24.cell? ⟨gb202, 2, none⟩ = some (.string (⟨#[]⟩ : ByteArray)) := (b' BK202.out 2).trans rfl
     have hfs34 := blk_frozen BK202.out 2
     have hns34_0 := NB181_202.out
     have hns34_1 := NB182_202.out
     have hns34_2 := NB201_202.out
     have hms34_0 := NB202_181.out
     have hms34_1 := NB202_182.out
     have hms34_2 := NB202_201.out
     have hs36 : w24.cell? ⟨gb202, 3, none⟩ = some (.slice none 0 0) := (b' BK202.out 3).trans rfl
     have hfs36 := blk_frozen BK202.out 3
     have hns36_0 := NB181_202.out
     have hns36_1 := NB182_202.out
     have hns36_2 := NB201_202.out
     have hms36_0 := NB202_181.out
     have hms36_1 := NB202_182.out
     have hms36_2 := NB202_201.out
     have hs38 : w24.cell? ⟨gb202, 4, none⟩ = some (.slice none 0 0) := (b' BK202.out 4).trans rfl
     have hfs38 := blk_frozen BK202.out 4
     have hns38_0 := NB181_202.out
     have hns38_1 := NB182_202.out
     have hns38_2 := NB201_202.out
     have hms38_0 := NB202_181.out
     have hms38_1 := NB202_182.out
     have hms38_2 := NB202_201.out
     refine skip_ (w1 := ?_) (by rfl) rfl ?_ ?_
     rotate_left
     ·
      go_simp
      rfl
     refine hK.out _ _ ⟨((cell_far (p := ⟨gb202, _, none⟩) NB181_202.out _).trans (((cell_far (p := ⟨gb202, _, none⟩) NB181_202.out _).trans (((cell_far (p := ⟨gb202, _, none⟩) NB181_202.out _).trans (((cell_far (p := ⟨gb202, _, none⟩) NB181_202.out _).trans (((cell_far (p := ⟨gb202, _, none⟩) NB181_202.out _).trans (hHeld.1)))))))))), ((cell_far (p := ⟨gb202, _, none⟩) NB181_202.out _).trans (((cell_far (p := ⟨gb202, _, none⟩) NB181_202.out _).trans (((cell_far (p := ⟨gb202, _, none⟩) NB181_202.out _).trans (((cell_far (p := ⟨gb202, _, none⟩) NB181_202.out _).trans (((cell_far (p := ⟨gb202, _, none⟩) NB181_202.out _).trans (hHeld.2.1)))))))))), ((cell_far (p := ⟨gb202, _, none⟩) NB181_202.out _).trans (((cell_far (p := ⟨gb202, _, none⟩) NB181_202.out _).trans (((cell_far (p := ⟨gb202, _, none⟩) NB181_202.out _).trans (((cell_far (p := ⟨gb202, _, none⟩) NB181_202.out _).trans (((cell_far (p := ⟨gb202, _, none⟩) NB181_202.out _).trans (hHeld.2.2.1)))))))))), ((cell_far (p := ⟨gb202, _, none⟩) NB181_202.out _).trans (((cell_far (p := ⟨gb202, _, none⟩) NB181_202.out _).trans (((cell_far (p := ⟨gb202, _, none⟩) NB181_202.out _).trans (((cell_far (p := ⟨gb202, _, none⟩) NB181_202.out _).trans (((cell_far (p := ⟨gb202, _, none⟩) NB181_202.out _).trans (hHeld.2.2.2.1)))))))))), ((cell_far (p := ⟨gb202, _, none⟩) NB181_202.out _).trans (((cell_far (p := ⟨gb202, _, none⟩) NB181_202.out _).trans (((cell_far (p := ⟨gb202, _, none⟩) NB181_202.out _).trans (((cell_far (p := ⟨gb202, _, none⟩) NB181_202.out _).trans (((cell_far (p := ⟨gb202, _, none⟩) NB181_202.out _).trans (hHeld.2.2.2.2.1)))))))))), ((cell_far (p := ⟨gb202, _, none⟩) NB182_202.out _).trans (((cell_far (p := ⟨gb202, _, none⟩) NB182_202.out _).trans (((cell_far (p := ⟨gb202, _, none⟩) NB182_202.out _).trans (((cell_far (p := ⟨gb202, _, none⟩) NB182_202.out _).trans (((cell_far (p := ⟨gb202, _, none⟩) NB182_202.out _).trans (hHeld.2.2.2.2.2.1)))))))))), ((cell_far (p := ⟨gb202, _, none⟩) NB182_202.out _).trans (((cell_far (p := ⟨gb202, _, none⟩) NB182_202.out _).trans (((cell_far (p := ⟨gb202, _, none⟩) NB182_202.out _).trans (((cell_far (p := ⟨gb202, _, none⟩) NB182_202.out _).trans (((cell_far (p := ⟨gb202, _, none⟩) NB182_202.out _).trans (hHeld.2.2.2.2.2.2.1)))))))))), ((cell_far (p := ⟨gb202, _, none⟩) NB182_202.out _).trans (((cell_far (p := ⟨gb202, _, none⟩) NB182_202.out _).trans (((cell_far (p := ⟨gb202, _, none⟩) NB182_202.out _).trans (((cell_far (p := ⟨gb202, _, none⟩) NB182_202.out _).trans (((cell_far (p := ⟨gb202, _, none⟩) NB182_202.out _).trans (hHeld.2.2.2.2.2.2.2.1)))))))))), ((cell_far (p := ⟨gb202, _, none⟩) NB182_202.out _).trans (((cell_far (p := ⟨gb202, _, none⟩) NB182_202.out _).trans (((cell_far (p := ⟨gb202, _, none⟩) NB182_202.out _).trans (((cell_far (p := ⟨gb202, _, none⟩) NB182_202.out _).trans (((cell_far (p := ⟨gb202, _, none⟩) NB182_202.out _).trans (hHeld.2.2.2.2.2.2.2.2.1)))))))))), ((cell_far (p := ⟨gb202, _, none⟩) NB182_202.out _).trans (((cell_far (p := ⟨gb202, _, none⟩) NB182_202.out _).trans (((cell_far (p := ⟨gb202, _, none⟩) NB182_202.out _).trans (((cell_far (p := ⟨gb202, _, none⟩) NB182_202.out _).trans (((cell_far (p := ⟨gb202, _, none⟩) NB182_202.out _).trans (hHeld.2.2.2.2.2.2.2.2.2))))))))))⟩ (fun hHeld => ?_)
     clear hK K
     refine done_ (done_of HT_.out (by kernel_rfl)) ?_
     have hnb39 := NB181_182.out
     have hnc39 := NB182_181.out
     have hnb40 := NB181_201.out
     have hnc40 := NB201_181.out
     have hnb41 := NB181_202.out
     have hnc41 := NB202_181.out
     have hcz42_0 : w24.cell? ⟨gb181, 0, none⟩ = some (.string a0_0) := (b' BK181.out 0).trans rfl
     have hcz42_1 : w24.cell? ⟨gb181, 1, none⟩ = some (.string a0_1) := (b' BK181.out 1).trans rfl
     have hcz42_2 : w24.cell? ⟨gb181, 2, none⟩ = some (.string a0_2) := (b' BK181.out 2).trans rfl
     have hcz42_3 : w24.cell? ⟨gb181, 3, none⟩ = some (.slice A0_3 l0_3.length c0_3) := (b' BK181.out 3).trans rfl
     have hcz42_4 : w24.cell? ⟨gb181, 4, none⟩ = some (.slice A0_4 l0_4.length c0_4) := (b' BK181.out 4).trans rfl
     have hfz42_0 := blk_frozen BK181.out 0
     have hfz42_1 := blk_frozen BK181.out 1
     have hfz42_2 := blk_frozen BK181.out 2
     have hfz42_3 := blk_frozen BK181.out 3
     have hfz42_4 := blk_frozen BK181.out 4
     try go_wp2_with (first | ((with_reducible refine gate_callee (f := 14) rfl ?_); refine goesL_ (some 13) rfl rfl Tryz.func14 (by kernel_rfl) rfl #[.agg #[.string a0_0, .string a0_1, .string a0_2, .slice A0_3 l0_3.length c0_3, .slice A0_4 l0_4.length c0_4]] rfl (by (try simp only [o', p', q']); first | done | rfl | (simp only [r', s']; rfl)) ?_; (with_reducible refine (fanlightref09_Check.calls k a0_0 a0_1 a0_2 _ _ l0_3 _ _ l0_4 t203 _ ?side1 ?side2 ?side3 ?side4 A5.out).mono ?_); (case side1 => exact Kd.C_below HR0_3.out (eH HB)); (case side2 => exact HC0_3.out); (case side3 => exact Kd.C_below HR0_4.out (eH HB)); (case side4 => exact HC0_4.out); rintro e w43 ⟨rfl, hb⟩; refine ⟨_, rfl, ?_⟩; have n0_ := u' (d' (Kd.kR (f' (f' (h' (p := ⟨gb202, 4, none⟩) (h' (p := ⟨gb202, 3, none⟩) (h' (p := ⟨gb202, 2, none⟩) (h' (p := ⟨gb202, 1, none⟩) (h' (p := ⟨gb202, 0, none⟩) (h' (p := ⟨gb201, 4, none⟩) (h' (p := ⟨gb201, 3, none⟩) (h' (p := ⟨gb201, 2, none⟩) (h' (p := ⟨gb201, 1, none⟩) (h' (p := ⟨gb201, 0, none⟩) (Kd.R_types (Kd.R_types HO188.out BK201.out (by decide)) BK202.out (by decide)) (fun _ hk => hk.1.2) (.string t183)) (fun _ hk => hk.1.2) (.string t184)) (fun _ hk => hk.1.2) (.string t185)) (fun _ hk => hk.1.2) (.slice Ao28 t186.length co28)) (fun _ hk => hk.1.2) (.slice Ao30 t189.length co30)) (fun _ hk => hk.2) (.string t192)) (fun _ hk => hk.2) (.string t193)) (fun _ hk => hk.2) (.string t194)) (fun _ hk => hk.2) (.slice Ao35 t195.length co35)) (fun _ hk => hk.2) (.slice Ao37 t198.length co37)) (fun _ h_ => h_.1)) (fun _ h_ => h_.1))) hb); have n1_ := u' (d' (Kd.kR (f' (f' (h' (p := ⟨gb202, 4, none⟩) (h' (p := ⟨gb202, 3, none⟩) (h' (p := ⟨gb202, 2, none⟩) (h' (p := ⟨gb202, 1, none⟩) (h' (p := ⟨gb202, 0, none⟩) (h' (p := ⟨gb201, 4, none⟩) (h' (p := ⟨gb201, 3, none⟩) (h' (p := ⟨gb201, 2, none⟩) (h' (p := ⟨gb201, 1, none⟩) (h' (p := ⟨gb201, 0, none⟩) (f' (f' HO191.out (fun k_ hk => (⟨hk, hk.2.2.2.2.2.1⟩ : _ ∧ k_ ≠ gb201))) (fun k_ hk => (⟨hk, hk.1.2.2.2.2.2.2⟩ : _ ∧ k_ ≠ gb202))) (fun _ hk => hk.1.2) (.string t183)) (fun _ hk => hk.1.2) (.string t184)) (fun _ hk => hk.1.2) (.string t185)) (fun _ hk => hk.1.2) (.slice Ao28 t186.length co28)) (fun _ hk => hk.1.2) (.slice Ao30 t189.length co30)) (fun _ hk => hk.2) (.string t192)) (fun _ hk => hk.2) (.string t193)) (fun _ hk => hk.2) (.string t194)) (fun _ hk => hk.2) (.slice Ao35 t195.length co35)) (fun _ hk => hk.2) (.slice Ao37 t198.length co37)) (fun _ h_ => h_.1)) (fun _ h_ => h_.1))) hb); have n2_ := u' (d' (Kd.kR (f' (f' (h' (p := ⟨gb202, 4, none⟩) (h' (p := ⟨gb202, 3, none⟩) (h' (p := ⟨gb202, 2, none⟩) (h' (p := ⟨gb202, 1, none⟩) (h' (p := ⟨gb202, 0, none⟩) (h' (p := ⟨gb201, 4, none⟩) (h' (p := ⟨gb201, 3, none⟩) (h' (p := ⟨gb201, 2, none⟩) (h' (p := ⟨gb201, 1, none⟩) (h' (p := ⟨gb201, 0, none⟩) (Kd.R_types (Kd.R_types HO197.out BK201.out (by decide)) BK202.out (by decide)) (fun _ hk => hk.1.2) (.string t183)) (fun _ hk => hk.1.2) (.string t184)) (fun _ hk => hk.1.2) (.string t185)) (fun _ hk => hk.1.2) (.slice Ao28 t186.length co28)) (fun _ hk => hk.1.2) (.slice Ao30 t189.length co30)) (fun _ hk => hk.2) (.string t192)) (fun _ hk => hk.2) (.string t193)) (fun _ hk => hk.2) (.string t194)) (fun _ hk => hk.2) (.slice Ao35 t195.length co35)) (fun _ hk => hk.2) (.slice Ao37 t198.length co37)) (fun _ h_ => h_.1)) (fun _ h_ => h_.1))) hb); have n3_ := u' (d' (Kd.kR (f' (f' (h' (p := ⟨gb202, 4, none⟩) (h' (p := ⟨gb202, 3, none⟩) (h' (p := ⟨gb202, 2, none⟩) (h' (p := ⟨gb202, 1, none⟩) (h' (p := ⟨gb202, 0, none⟩) (h' (p := ⟨gb201, 4, none⟩) (h' (p := ⟨gb201, 3, none⟩) (h' (p := ⟨gb201, 2, none⟩) (h' (p := ⟨gb201, 1, none⟩) (h' (p := ⟨gb201, 0, none⟩) (f' (f' HO200.out (fun k_ hk => (⟨hk, hk.2.2.2.2.2.1⟩ : _ ∧ k_ ≠ gb201))) (fun k_ hk => (⟨hk, hk.1.2.2.2.2.2.2⟩ : _ ∧ k_ ≠ gb202))) (fun _ hk => hk.1.2) (.string t183)) (fun _ hk => hk.1.2) (.string t184)) (fun _ hk => hk.1.2) (.string t185)) (fun _ hk => hk.1.2) (.slice Ao28 t186.length co28)) (fun _ hk => hk.1.2) (.slice Ao30 t189.length co30)) (fun _ hk => hk.2) (.string t192)) (fun _ hk => hk.2) (.string t193)) (fun _ hk => hk.2) (.string t194)) (fun _ hk => hk.2) (.slice Ao35 t195.length co35)) (fun _ hk => hk.2) (.slice Ao37 t198.length co37)) (fun _ h_ => h_.1)) (fun _ h_ => h_.1))) hb); have n4_ := u' (c' (g := gb181) (o := .cells #[.string a0_0, .string a0_1, .string a0_2, .slice A0_3 l0_3.length c0_3, .slice A0_4 l0_4.length c0_4] 25 (0, 0)) (by refine eK ?_; refine k' ?_ NB181_202.out _; refine eK ?_; refine k' ?_ NB181_202.out _; refine eK ?_; refine k' ?_ NB181_202.out _; refine eK ?_; refine k' ?_ NB181_202.out _; refine eK ?_; refine k' ?_ NB181_202.out _; refine eK ?_; refine k' ?_ NB181_201.out _; refine eK ?_; refine k' ?_ NB181_201.out _; refine eK ?_; refine k' ?_ NB181_201.out _; refine eK ?_; refine k' ?_ NB181_201.out _; refine eK ?_; refine k' ?_ NB181_201.out _; refine eK ?_; exact BK181.out) hb); have n5_ := u' (c' (g := gb182) (o := .cells #[.string a1_0, .string a1_1, .string a1_2, .slice A1_3 l1_3.length c1_3, .slice A1_4 l1_4.length c1_4] 25 (0, 0)) (by refine eK ?_; refine k' ?_ NB182_202.out _; refine eK ?_; refine k' ?_ NB182_202.out _; refine eK ?_; refine k' ?_ NB182_202.out _; refine eK ?_; refine k' ?_ NB182_202.out _; refine eK ?_; refine k' ?_ NB182_202.out _; refine eK ?_; refine k' ?_ NB182_201.out _; refine eK ?_; refine k' ?_ NB182_201.out _; refine eK ?_; refine k' ?_ NB182_201.out _; refine eK ?_; refine k' ?_ NB182_201.out _; refine eK ?_; refine k' ?_ NB182_201.out _; refine eK ?_; exact BK182.out) hb); have n6_ := u' (c' (g := gb201) (o := .cells #[.string t183, .string t184, .string t185, .slice Ao28 t186.length co28, .slice Ao30 t189.length co30] 25 (0, 0)) (by refine eK ?_; refine k' ?_ NB201_202.out _; refine eK ?_; refine k' ?_ NB201_202.out _; refine eK ?_; refine k' ?_ NB201_202.out _; refine eK ?_; refine k' ?_ NB201_202.out _; refine eK ?_; refine k' ?_ NB201_202.out _; refine eK ?_; refine blk_put (cs := #[.string t183, .string t184, .string t185, .slice Ao28 t186.length co28, .slice none 0 0]) ?_ 4 _ rfl; refine eK ?_; refine blk_put (cs := #[.string t183, .string t184, .string t185, .slice none 0 0, .slice none 0 0]) ?_ 3 _ rfl; refine eK ?_; refine blk_put (cs := #[.string t183, .string t184, .string (⟨#[]⟩ : ByteArray), .slice none 0 0, .slice none 0 0]) ?_ 2 _ rfl; refine eK ?_; refine blk_put (cs := #[.string t183, .string (⟨#[]⟩ : ByteArray), .string (⟨#[]⟩ : ByteArray), .slice none 0 0, .slice none 0 0]) ?_ 1 _ rfl; refine eK ?_; refine blk_put (cs := #[.string (⟨#[]⟩ : ByteArray), .string (⟨#[]⟩ : ByteArray), .string (⟨#[]⟩ : ByteArray), .slice none 0 0, .slice none 0 0]) ?_ 0 _ rfl; refine eK ?_; exact BK201.out) hb); have n7_ := u' (c' (g := gb202) (o := .cells #[.string t192, .string t193, .string t194, .slice Ao35 t195.length co35, .slice Ao37 t198.length co37] 25 (0, 0)) (by refine eK ?_; refine blk_put (cs := #[.string t192, .string t193, .string t194, .slice Ao35 t195.length co35, .slice none 0 0]) ?_ 4 _ rfl; refine eK ?_; refine blk_put (cs := #[.string t192, .string t193, .string t194, .slice none 0 0, .slice none 0 0]) ?_ 3 _ rfl; refine eK ?_; refine blk_put (cs := #[.string t192, .string t193, .string (⟨#[]⟩ : ByteArray), .slice none 0 0, .slice none 0 0]) ?_ 2 _ rfl; refine eK ?_; refine blk_put (cs := #[.string t192, .string (⟨#[]⟩ : ByteArray), .string (⟨#[]⟩ : ByteArray), .slice none 0 0, .slice none 0 0]) ?_ 1 _ rfl; refine eK ?_; refine blk_put (cs := #[.string (⟨#[]⟩ : ByteArray), .string (⟨#[]⟩ : ByteArray), .string (⟨#[]⟩ : ByteArray), .slice none 0 0, .slice none 0 0]) ?_ 0 _ rfl; refine eK ?_; refine k' ?_ NB202_201.out _; refine eK ?_; refine k' ?_ NB202_201.out _; refine eK ?_; refine k' ?_ NB202_201.out _; refine eK ?_; refine k' ?_ NB202_201.out _; refine eK ?_; refine k' ?_ NB202_201.out _; refine eK ?_; exact BK202.out) hb); have n8_ := u' (g' (eH HB) hb); clear HO188; clear HO191; clear HO197; clear HO200; clear BK181; clear BK182; clear BK201; clear BK202; clear HB; have HO188 := n0_; have HO191 := n1_; have HO197 := n2_; have HO200 := n3_; have BK181 := n4_; have BK182 := n5_; have BK201 := n6_; have BK202 := n7_; have HB := n8_; clear n0_ n1_ n2_ n3_ n4_ n5_ n6_ n7_ n8_; (try clear hb); (try clear hb2); (try clear hk); (try clear hi)))
     have n0_ := u' (Kd.R_drew HO188.out)
     have n1_ := u' (Kd.R_drew HO191.out)
     have n2_ := u' (Kd.R_drew HO197.out)
     have n3_ := u' (Kd.R_drew HO200.out)
     have n4_ := u' (blk_drew BK181.out)
     have n5_ := u' (blk_drew BK182.out)
     have n6_ := u' (blk_drew BK201.out)
     have n7_ := u' (blk_drew BK202.out)
     have n8_ := u' (below_drew1 HB.out)
     clear HO188
     clear HO191
     clear HO197
     clear HO200
     clear BK181
     clear BK182
     clear BK201
     clear BK202
     clear HB
     have HO188 := n0_
     have HO191 := n1_
     have HO197 := n2_
     have HO200 := n3_
     have BK181 := n4_
     have BK182 := n5_
     have BK201 := n6_
     have BK202 := n7_
     have HB := n8_
     clear n0_ n1_ n2_ n3_ n4_ n5_ n6_ n7_ n8_
     refine start_ (n := 29) (S := fun w' => w'.cell? ⟨gb201, 0, none⟩ = some (.string t183) ∧ w'.cell? ⟨gb201, 1, none⟩ = some (.string t184) ∧ w'.cell? ⟨gb201, 2, none⟩ = some (.string t185) ∧ w'.cell? ⟨gb201, 3, none⟩ = some (.slice Ao28 t186.length co28) ∧ w'.cell? ⟨gb201, 4, none⟩ = some (.slice Ao30 t189.length co30) ∧ w'.cell? ⟨gb202, 0, none⟩ = some (.string t192) ∧ w'.cell? ⟨gb202, 1, none⟩ = some (.string t193) ∧ w'.cell? ⟨gb202, 2, none⟩ = some (.string t194) ∧ w'.cell? ⟨gb202, 3, none⟩ = some (.slice Ao35 t195.length co35) ∧ w'.cell? ⟨gb202, 4, none⟩ = some (.slice Ao37 t198.length co37) ∧ w'.cell? ⟨gb181, 0, none⟩ = some (.string a0_0) ∧ w'.cell? ⟨gb181, 1, none⟩ = some (.string a0_1) ∧ w'.cell? ⟨gb181, 2, none⟩ = some (.string a0_2) ∧ w'.cell? ⟨gb181, 3, none⟩ = some (.slice A0_3 l0_3.length c0_3) ∧ w'.cell? ⟨gb181, 4, none⟩ = some (.slice A0_4 l0_4.length c0_4) ∧ w'.cell? ⟨gb182, 0, none⟩ = some (.string a1_0) ∧ w'.cell? ⟨gb182, 1, none⟩ = some (.string a1_1) ∧ w'.cell? ⟨gb182, 2, none⟩ = some (.string a1_2) ∧ w'.cell? ⟨gb182, 3, none⟩ = some (.slice A1_3 l1_3.length c1_3) ∧ w'.cell? ⟨gb182, 4, none⟩ = some (.slice A1_4 l1_4.length c1_4)) (ds := []) #[Z,Z,Z,Z,Z,Z,Z,Z,Z,Z,Z,Z,Z,Z,Z,Z,Z,Z,Z,Z,Z,Z,Z,Z,Z,Z,Z,Z,Z] (by kernel_rfl) rfl rfl ⟨(b' BK201.out 0).trans rfl, (b' BK201.out 1).trans rfl, (b' BK201.out 2).trans rfl, (b' BK201.out 3).trans rfl, (b' BK201.out 4).trans rfl, (b' BK202.out 0).trans rfl, (b' BK202.out 1).trans rfl, (b' BK202.out 2).trans rfl, (b' BK202.out 3).trans rfl, (b' BK202.out 4).trans rfl, (b' BK181.out 0).trans rfl, (b' BK181.out 1).trans rfl, (b' BK181.out 2).trans rfl, (b' BK181.out 3).trans rfl, (b' BK181.out 4).trans rfl, (b' BK182.out 0).trans rfl, (b' BK182.out 1).trans rfl, (b' BK182.out 2).trans rfl, (b' BK182.out 3).trans rfl, (b' BK182.out 4).trans rfl⟩ (fun hHeld => ?_); refine with_tabW fanlightlaw09_TreeSame.tab3 fanlightlaw09_TreeSame.bits3 (fun HT_ HW_ => ?_)
     generalize w43.drew = w44 at HO188 HO191 HO197 HO200 BK181 BK182 BK201 BK202 HB hHeld ⊢
     refine take_ (i := 0) (N := some 15) (v := ?_) (a' := ?_) #[Y,Z,Z,Z,Z,Z,Z,Z,Z,Z,Z,Z,Z,Z,Z,Z,Z,Z,Z,Z,Z,Z,Z,Z,Z,Z,Z,Z,Z] rfl rfl (take_ofW HT_.out HW_.out (by kernel_rfl)) (fun _ _ _ h => h) (Or.inl ⟨by rfl, ?_⟩) hHeld ?_ ?_
     rotate_left
     ·
      rintro w' ⟨s0, s1, s2, s3, s4, s5, s6, s7, s8, s9, s10, s11, s12, s13, s14, s15, s16, s17, s18, s19⟩
      go_simp
      with_reducible rfl
     rotate_left
     ·
      simp only [Act.put, l', m', n', i64_w, i32_w]
      rfl
     refine take_ (i := 1) (N := some 16) (v := ?_) (a' := ?_) #[Y,Y,Z,Z,Z,Z,Z,Z,Z,Z,Z,Z,Z,Z,Z,Z,Z,Z,Z,Z,Z,Z,Z,Z,Z,Z,Z,Z,Z] rfl rfl (take_ofW HT_.out HW_.out (by kernel_rfl)) (fun _ _ _ h => h) (Or.inl ⟨by rfl, ?_⟩) hHeld ?_ ?_
     rotate_left
     ·
      rintro w' ⟨s0, s1, s2, s3, s4, s5, s6, s7, s8, s9, s10, s11, s12, s13, s14, s15, s16, s17, s18, s19⟩
      go_simp
      with_reducible rfl
     rotate_left
     ·
      simp only [Act.put, l', m', n', i64_w, i32_w]
      rfl
     refine take_ (i := 3) (N := some 18) (v := ?_) (a' := ?_) #[Y,Y,Z,Y,Z,Z,Z,Z,Z,Z,Z,Z,Z,Z,Z,Z,Z,Z,Z,Z,Z,Z,Z,Z,Z,Z,Z,Z,Z] rfl rfl (take_ofW HT_.out HW_.out (by kernel_rfl)) (fun _ _ _ h => h) (Or.inl ⟨by rfl, ?_⟩) hHeld ?_ ?_
     rotate_left
     ·
      rintro w' ⟨s0, s1, s2, s3, s4, s5, s6, s7, s8, s9, s10, s11, s12, s13, s14, s15, s16, s17, s18, s19⟩
      go_simp
      with_reducible rfl
     rotate_left
     ·
      simp only [Act.put, l', m', n', i64_w, i32_w]
      rfl
     refine take_ (i := 4) (N := some 19) (v := ?_) (a' := ?_) #[Y,Y,Z,Y,Y,Z,Z,Z,Z,Z,Z,Z,Z,Z,Z,Z,Z,Z,Z,Z,Z,Z,Z,Z,Z,Z,Z,Z,Z] rfl rfl (take_ofW HT_.out HW_.out (by kernel_rfl)) (fun _ _ _ h => h) (Or.inl ⟨by rfl, ?_⟩) hHeld ?_ ?_
     rotate_left
     ·
      rintro w' ⟨s0, s1, s2, s3, s4, s5, s6, s7, s8, s9, s10, s11, s12, s13, s14, s15, s16, s17, s18, s19⟩
      go_simp
      with_reducible rfl
     rotate_left
     ·
      simp only [Act.put, l', m', n', i64_w, i32_w]
      rfl
     refine one_ (i := 2) (N := some 17) #[Y,Y,Y,Y,Y,Z,Z,Z,Z,Z,Z,Z,Z,Z,Z,Z,Z,Z,Z,Z,Z,Z,Z,Z,Z,Z,Z,Z,Z] rfl rfl (one_of HT_.out (by kernel_rfl)) (by decide) (fun K hK => ?_)
     refine goes_ Tryz.func17 (by kernel_rfl) rfl #[.agg #[.string t183, .string t184, .string t185, .slice Ao28 t186.length co28, .slice Ao30 t189.length co30], .agg #[.string t192, .string t193, .string t194, .slice Ao35 t195.length co35, .slice Ao37 t198.length co37]] (by rfl) rfl rfl (by (try simp only [o', p', q']); first | done | rfl | (simp only [r', s']; rfl)) ?_
     with_reducible refine (tree_Same.calls t183 t184 t185 _ _ t186 _ _ t189 t192 t193 t194 _ _ t195 _ _ t198 t204 _ ?side1 ?side2 ?side3 ?side4 ?side5 ?side6 ?side7 ?side8 A6.out).mono ?_
     (case side1 => exact Kd.kC (j' HO188.out).2.2)
     (case side2 => exact (j' HO188.out).2.1)
     (case side3 => exact Kd.kC (j' HO191.out).2.2)
     (case side4 => exact (j' HO191.out).2.1)
     (case side5 => exact Kd.kC (j' HO197.out).2.2)
     (case side6 => exact (j' HO197.out).2.1)
     (case side7 => exact Kd.kC (j' HO200.out).2.2)
     (case side8 => exact (j' HO200.out).2.1)
     rintro e w45 ⟨rfl, hb⟩
     refine ⟨_, rfl, ?_⟩
     have n0_ := u' (d' (Kd.eR HO188) hb)
     have n1_ := u' (d' (Kd.eR HO191) hb)
     have n2_ := u' (d' (Kd.eR HO197) hb)
     have n3_ := u' (d' (Kd.eR HO200) hb)
     have n4_ := u' (c' (g := gb181) (o := .cells #[.string a0_0, .string a0_1, .string a0_2, .slice A0_3 l0_3.length c0_3, .slice A0_4 l0_4.length c0_4] 25 (0, 0)) (eB BK181) hb)
     have n5_ := u' (c' (g := gb182) (o := .cells #[.string a1_0, .string a1_1, .string a1_2, .slice A1_3 l1_3.length c1_3, .slice A1_4 l1_4.length c1_4] 25 (0, 0)) (eB BK182) hb)
     have n6_ := u' (c' (g := gb201) (o := .cells #[.string t183, .string t184, .string t185, .slice Ao28 t186.length co28, .slice Ao30 t189.length co30] 25 (0, 0)) (eB BK201) hb)
     have n7_ := u' (c' (g := gb202) (o := .cells #[.string t192, .string t193, .string t194, .slice Ao35 t195.length co35, .slice Ao37 t198.length co37] 25 (0, 0)) (eB BK202) hb)
     have n8_ := u' (g' (eH HB) hb)
     clear HO188
     clear HO191
     clear HO197
     clear HO200
     clear BK181
     clear BK182
     clear BK201
     clear BK202
     clear HB
     have HO188 := n0_
     have HO191 := n1_
     have HO197 := n2_
     have HO200 := n3_
     have BK181 := n4_
     have BK182 := n5_
     have BK201 := n6_
     have BK202 := n7_
     have HB := n8_
     clear n0_ n1_ n2_ n3_ n4_ n5_ n6_ n7_ n8_
     (try clear hb)
     (try clear hb2)
     (try clear hk)
     (try clear hi)
     refine hK.out _ _ ⟨(b' BK201.out 0).trans rfl, (b' BK201.out 1).trans rfl, (b' BK201.out 2).trans rfl, (b' BK201.out 3).trans rfl, (b' BK201.out 4).trans rfl, (b' BK202.out 0).trans rfl, (b' BK202.out 1).trans rfl, (b' BK202.out 2).trans rfl, (b' BK202.out 3).trans rfl, (b' BK202.out 4).trans rfl, (b' BK181.out 0).trans rfl, (b' BK181.out 1).trans rfl, (b' BK181.out 2).trans rfl, (b' BK181.out 3).trans rfl, (b' BK181.out 4).trans rfl, (b' BK182.out 0).trans rfl, (b' BK182.out 1).trans rfl, (b' BK182.out 2).trans rfl, (b' BK182.out 3).trans rfl, (b' BK182.out 4).trans rfl⟩ (fun hHeld => ?_)
     clear hK K
     refine norm_ (a' := ?_) ?_ ?_
     rotate_left
     ·
      show Act.put _ (some 17) _ = _
      simp only [Act.put, l', m', n', i64_w, i32_w]
      rfl
     refine one_ (i := 5) (N := some 20) #[Y,Y,Y,Y,Y,Y,Z,Z,Z,Z,Z,Z,Z,Z,Z,Z,Z,Z,Z,Z,Z,Z,Z,Z,Z,Z,Z,Z,Z] rfl rfl (one_of HT_.out (by kernel_rfl)) (by decide) (fun K hK => ?_)
     refine goes_ Tryz.func18 (by kernel_rfl) rfl #[.agg #[.string a0_0, .string a0_1, .string a0_2, .slice A0_3 l0_3.length c0_3, .slice A0_4 l0_4.length c0_4], .agg #[.string a1_0, .string a1_1, .string a1_2, .slice A1_3 l1_3.length c1_3, .slice A1_4 l1_4.length c1_4]] (by rfl) rfl rfl (by (try simp only [o', p', q']); first | done | rfl | (simp only [r', s']; rfl)) ?_
     with_reducible refine (fanlightref09_Same.calls k a0_0 a0_1 a0_2 _ _ l0_3 _ _ l0_4 a1_0 a1_1 a1_2 _ _ l1_3 _ _ l1_4 t205 _ ?side1 ?side2 ?side3 ?side4 ?side5 ?side6 ?side7 ?side8 A7.out).mono ?_
     (case side1 => exact Kd.eC HR0_3 HB)
     (case side2 => exact HC0_3.out)
     (case side3 => exact Kd.eC HR0_4 HB)
     (case side4 => exact HC0_4.out)
     (case side5 => exact Kd.eC HR1_3 HB)
     (case side6 => exact HC1_3.out)
     (case side7 => exact Kd.eC HR1_4 HB)
     (case side8 => exact HC1_4.out)
     rintro e w46 ⟨rfl, hb⟩
     refine ⟨_, rfl, ?_⟩
     have n0_ := u' (d' (Kd.eR HO188) hb)
     have n1_ := u' (d' (Kd.eR HO191) hb)
     have n2_ := u' (d' (Kd.eR HO197) hb)
     have n3_ := u' (d' (Kd.eR HO200) hb)
     have n4_ := u' (c' (g := gb181) (o := .cells #[.string a0_0, .string a0_1, .string a0_2, .slice A0_3 l0_3.length c0_3, .slice A0_4 l0_4.length c0_4] 25 (0, 0)) (eB BK181) hb)
     have n5_ := u' (c' (g := gb182) (o := .cells #[.string a1_0, .string a1_1, .string a1_2, .slice A1_3 l1_3.length c1_3, .slice A1_4 l1_4.length c1_4] 25 (0, 0)) (eB BK182) hb)
     have n6_ := u' (c' (g := gb201) (o := .cells #[.string t183, .string t184, .string t185, .slice Ao28 t186.length co28, .slice Ao30 t189.length co30] 25 (0, 0)) (eB BK201) hb)
     have n7_ := u' (c' (g := gb202) (o := .cells #[.string t192, .string t193, .string t194, .slice Ao35 t195.length co35, .slice Ao37 t198.length co37] 25 (0, 0)) (eB BK202) hb)
     have n8_ := u' (g' (eH HB) hb)
     clear HO188
     clear HO191
     clear HO197
     clear HO200
     clear BK181
     clear BK182
     clear BK201
     clear BK202
     clear HB
     have HO188 := n0_
     have HO191 := n1_
     have HO197 := n2_
     have HO200 := n3_
     have BK181 := n4_
     have BK182 := n5_
     have BK201 := n6_
     have BK202 := n7_
     have HB := n8_
     clear n0_ n1_ n2_ n3_ n4_ n5_ n6_ n7_ n8_
     (try clear hb)
     (try clear hb2)
     (try clear hk)
     (try clear hi)
     refine hK.out _ _ ⟨(b' BK201.out 0).trans rfl, (b' BK201.out 1).trans rfl, (b' BK201.out 2).trans rfl, (b' BK201.out 3).trans rfl, (b' BK201.out 4).trans rfl, (b' BK202.out 0).trans rfl, (b' BK202.out 1).trans rfl, (b' BK202.out 2).trans rfl, (b' BK202.out 3).trans rfl, (b' BK202.out 4).trans rfl, (b' BK181.out 0).trans rfl, (b' BK181.out 1).trans rfl, (b' BK181.out 2).trans rfl, (b' BK181.out 3).trans rfl, (b' BK181.out 4).trans rfl, (b' BK182.out 0).trans rfl, (b' BK182.out 1).trans rfl, (b' BK182.out 2).trans rfl, (b' BK182.out 3).trans rfl, (b' BK182.out 4).trans rfl⟩ (fun hHeld => ?_)
     clear hK K
     refine norm_ (a' := ?_) ?_ ?_
     rotate_left
     ·
      show Act.put _ (some 20) _ = _
      simp only [Act.put, l', m', n', i64_w, i32_w]
      rfl
     refine pure_ (i := 6) (N := some 21) (v := ?_) (a' := ?_) #[Y,Y,Y,Y,Y,Y,Y,Z,Z,Z,Z,Z,Z,Z,Z,Z,Z,Z,Z,Z,Z,Z,Z,Z,Z,Z,Z,Z,Z] rfl rfl (any_of HT_.out (by kernel_rfl)) (fun _ _ _ h => h) (Or.inl ⟨by rfl, ?_⟩) ?_ ?_
     rotate_left
     ·
      intro w'
      go_simp
      with_reducible rfl
     rotate_left
     ·
      simp only [Act.put, l', m', n', i64_w, i32_w]
      rfl
     refine pure_ (i := 7) (N := some 22) (v := ?_) (a' := ?_) #[Y,Y,Y,Y,Y,Y,Y,Y,Z,Z,Z,Z,Z,Z,Z,Z,Z,Z,Z,Z,Z,Z,Z,Z,Z,Z,Z,Z,Z] rfl rfl (any_of HT_.out (by kernel_rfl)) (fun _ _ _ h => h) (Or.inl ⟨by rfl, ?_⟩) ?_ ?_
     rotate_left
     ·
      intro w'
      go_simp
      with_reducible rfl
     rotate_left
     ·
      simp only [Act.put, l', m', n', i64_w, i32_w]
      rfl
     refine pure_ (i := 12) (N := some 27) (v := ?_) (a' := ?_) #[Y,Y,Y,Y,Y,Y,Y,Y,Z,Z,Z,Z,Y,Z,Z,Z,Z,Z,Z,Z,Z,Z,Z,Z,Z,Z,Z,Z,Z] rfl rfl (any_of HT_.out (by kernel_rfl)) (fun _ _ _ h => h) (Or.inl ⟨by rfl, ?_⟩) ?_ ?_
     rotate_left
     ·
      intro w'
      go_simp
      with_reducible rfl
     rotate_left
     ·
      simp only [Act.put, l', m', n', i64_w, i32_w]
      rfl
     refine take_ (i := 8) (N := some 23) (v := ?_) (a' := ?_) #[Y,Y,Y,Y,Y,Y,Y,Y,Y,Z,Z,Z,Y,Z,Z,Z,Z,Z,Z,Z,Z,Z,Z,Z,Z,Z,Z,Z,Z] rfl rfl (take_ofW HT_.out HW_.out (by kernel_rfl)) (fun _ _ _ h => h) (Or.inl ⟨by rfl, ?_⟩) hHeld ?_ ?_
     rotate_left
     ·
      rintro w' ⟨s0, s1, s2, s3, s4, s5, s6, s7, s8, s9, s10, s11, s12, s13, s14, s15, s16, s17, s18, s19⟩
      go_simp
      with_reducible rfl
     rotate_left
     ·
      simp only [Act.put, l', m', n', i64_w, i32_w]
      rfl
     refine take_ (i := 9) (N := some 24) (v := ?_) (a' := ?_) #[Y,Y,Y,Y,Y,Y,Y,Y,Y,Y,Z,Z,Y,Z,Z,Z,Z,Z,Z,Z,Z,Z,Z,Z,Z,Z,Z,Z,Z] rfl rfl (take_ofW HT_.out HW_.out (by kernel_rfl)) (fun _ _ _ h => h) (Or.inl ⟨by rfl, ?_⟩) hHeld ?_ ?_
     rotate_left
     ·
      rintro w' ⟨s0, s1, s2, s3, s4, s5, s6, s7, s8, s9, s10, s11, s12, s13, s14, s15, s16, s17, s18, s19⟩
      go_simp
      with_reducible rfl
     rotate_left
     ·
      simp only [Act.put, l', m', n', i64_w, i32_w]
      rfl
     refine one_ (i := 10) (N := some 25) #[Y,Y,Y,Y,Y,Y,Y,Y,Y,Y,Y,Z,Y,Z,Z,Z,Z,Z,Z,Z,Z,Z,Z,Z,Z,Z,Z,Z,Z] rfl rfl (one_of HT_.out (by kernel_rfl)) (by decide) (fun K hK => ?_)
     refine goes_ Tryz.func5 (by kernel_rfl) rfl #[.agg #[.string a0_0, .string a0_1, .string a0_2, .slice A0_3 l0_3.length c0_3, .slice A0_4 l0_4.length c0_4]] (by rfl) rfl rfl (by (try simp only [o', p', q']); first | done | rfl | (simp only [r', s']; rfl)) ?_
     with_reducible refine (fanlightplain_CopyTree.calls k a0_0 a0_1 a0_2 _ _ l0_3 _ _ l0_4 t206 t207 t208 t209 t212 _ ?side1 ?side2 ?side3 ?side4 A9.out).mono ?_
     (case side1 => exact Kd.eC HR0_3 HB)
     (case side2 => exact HC0_3.out)
     (case side3 => exact Kd.eC HR0_4 HB)
     (case side4 => exact HC0_4.out)
     rintro e w47 ⟨v210, v213, rfl, ho0, ho1, hb⟩
     refine ⟨_, rfl, ?_⟩
     have n0_ := u' (Kd.R_elder' (Kd.eR HO188) (Kd.R_base ho0) hb)
     have n1_ := u' (f' (Kd.R_told (Kd.R_told (Kd.R_old (Kd.eR HO191) hb) (Kd.R_base ho0)) (Kd.R_base ho1)) (fun _ h_ => h_.1))
     have n2_ := u' (Kd.R_elder' (Kd.eR HO197) (Kd.R_base ho0) hb)
     have n3_ := u' (f' (Kd.R_told (Kd.R_told (Kd.R_old (Kd.eR HO200) hb) (Kd.R_base ho0)) (Kd.R_base ho1)) (fun _ h_ => h_.1))
     have n4_ := u' (Kd.R_lower (Kd.R_new' (Kd.R_new' ho0 (Kd.R_lt (Kd.eR HO188))) (Kd.R_lt (Kd.eR HO197))) (e' (eH HB)))
     have n5_ := u' (Kd.R_lower (Kd.R_newB (Kd.R_newB (Kd.R_newB (Kd.R_newB (Kd.R_new' (Kd.R_new' (Kd.R_new' (Kd.R_new' ho1 (Kd.R_lt (Kd.eR HO188))) (Kd.R_lt (Kd.eR HO191))) (Kd.R_lt (Kd.eR HO197))) (Kd.R_lt (Kd.eR HO200))) (g := gb181) (o := .cells #[.string a0_0, .string a0_1, .string a0_2, .slice A0_3 l0_3.length c0_3, .slice A0_4 l0_4.length c0_4] 25 (0, 0)) (eB BK181)) (g := gb182) (o := .cells #[.string a1_0, .string a1_1, .string a1_2, .slice A1_3 l1_3.length c1_3, .slice A1_4 l1_4.length c1_4] 25 (0, 0)) (eB BK182)) (g := gb201) (o := .cells #[.string t183, .string t184, .string t185, .slice Ao28 t186.length co28, .slice Ao30 t189.length co30] 25 (0, 0)) (eB BK201)) (g := gb202) (o := .cells #[.string t192, .string t193, .string t194, .slice Ao35 t195.length co35, .slice Ao37 t198.length co37] 25 (0, 0)) (eB BK202)) (e' (eH HB)))
     have n6_ := u' (c' (g := gb181) (o := .cells #[.string a0_0, .string a0_1, .string a0_2, .slice A0_3 l0_3.length c0_3, .slice A0_4 l0_4.length c0_4] 25 (0, 0)) (eB BK181) hb)
     have n7_ := u' (c' (g := gb182) (o := .cells #[.string a1_0, .string a1_1, .string a1_2, .slice A1_3 l1_3.length c1_3, .slice A1_4 l1_4.length c1_4] 25 (0, 0)) (eB BK182) hb)
     have n8_ := u' (c' (g := gb201) (o := .cells #[.string t183, .string t184, .string t185, .slice Ao28 t186.length co28, .slice Ao30 t189.length co30] 25 (0, 0)) (eB BK201) hb)
     have n9_ := u' (c' (g := gb202) (o := .cells #[.string t192, .string t193, .string t194, .slice Ao35 t195.length co35, .slice Ao37 t198.length co37] 25 (0, 0)) (eB BK202) hb)
     have n10_ := u' (g' (eH HB) hb)
     clear HO188
     clear HO191
     clear HO197
     clear HO200
     clear BK181
     clear BK182
     clear BK201
     clear BK202
     clear HB
     have HO188 := n0_
     have HO191 := n1_
     have HO197 := n2_
     have HO200 := n3_
     have HO211 := n4_
     have HO214 := n5_
     have BK181 := n6_
     have BK182 := n7_
     have BK201 := n8_
     have BK202 := n9_
     have HB := n10_
     clear n0_ n1_ n2_ n3_ n4_ n5_ n6_ n7_ n8_ n9_ n10_
     (try clear hb)
     (try clear hb2)
     (try clear hk)
     (try clear hi)
     (try clear ho0)
     (try clear ho1)
     obtain ⟨Ao48, co48, eo48⟩ := Kd.R_slice HO211.out
     (first | subst eo48 | (injection eo48 with f1_ f2_ f3_; have f4_ := f1_.symm; have f5_ := f3_.symm; clear f1_ f2_ f3_; subst f4_; subst f5_))
     obtain ⟨Ao49, co49, eo49⟩ := Kd.R_slice HO214.out
     (first | subst eo49 | (injection eo49 with f1_ f2_ f3_; have f4_ := f1_.symm; have f5_ := f3_.symm; clear f1_ f2_ f3_; subst f4_; subst f5_))
     refine hK.out _ _ ⟨(b' BK201.out 0).trans rfl, (b' BK201.out 1).trans rfl, (b' BK201.out 2).trans rfl, (b' BK201.out 3).trans rfl, (b' BK201.out 4).trans rfl, (b' BK202.out 0).trans rfl, (b' BK202.out 1).trans rfl, (b' BK202.out 2).trans rfl, (b' BK202.out 3).trans rfl, (b' BK202.out 4).trans rfl, (b' BK181.out 0).trans rfl, (b' BK181.out 1).trans rfl, (b' BK181.out 2).trans rfl, (b' BK181.out 3).trans rfl, (b' BK181.out 4).trans rfl, (b' BK182.out 0).trans rfl, (b' BK182.out 1).trans rfl, (b' BK182.out 2).trans rfl, (b' BK182.out 3).trans rfl, (b' BK182.out 4).trans rfl⟩ (fun hHeld => ?_)
     clear hK K
     refine norm_ (a' := ?_) ?_ ?_
     rotate_left
     ·
      show Act.put _ (some 25) _ = _
      simp only [Act.put, l', m', n', i64_w, i32_w]
      rfl
     refine one_ (i := 11) (N := some 26) #[Y,Y,Y,Y,Y,Y,Y,Y,Y,Y,Y,Y,Y,Z,Z,Z,Z,Z,Z,Z,Z,Z,Z,Z,Z,Z,Z,Z,Z] rfl rfl (one_of HT_.out (by kernel_rfl)) (by decide) (fun K hK => ?_)
     refine goes_ Tryz.func17 (by kernel_rfl) rfl #[.agg #[.string t183, .string t184, .string t185, .slice Ao28 t186.length co28, .slice Ao30 t189.length co30], .agg #[.string t206, .string t207, .string t208, .slice Ao48 t209.length co48, .slice Ao49 t212.length co49]] (by rfl) rfl rfl (by (try simp only [o', p', q']); first | done | rfl | (simp only [r', s']; rfl)) ?_
     with_reducible refine (tree_Same.calls t183 t184 t185 _ _ t186 _ _ t189 t206 t207 t208 _ _ t209 _ _ t212 t215 _ ?side1 ?side2 ?side3 ?side4 ?side5 ?side6 ?side7 ?side8 A10.out).mono ?_
     (case side1 => exact Kd.kC (j' HO188.out).2.2)
     (case side2 => exact (j' HO188.out).2.1)
     (case side3 => exact Kd.kC (j' HO191.out).2.2)
     (case side4 => exact (j' HO191.out).2.1)
     (case side5 => exact Kd.kC (j' HO211.out).2.2)
     (case side6 => exact (j' HO211.out).2.1)
     (case side7 => exact Kd.kC (j' HO214.out).2.2)
     (case side8 => exact (j' HO214.out).2.1)
     rintro e w50 ⟨rfl, hb⟩
     refine ⟨_, rfl, ?_⟩
     have n0_ := u' (d' (Kd.eR HO188) hb)
     have n1_ := u' (d' (Kd.eR HO191) hb)
     have n2_ := u' (d' (Kd.eR HO197) hb)
     have n3_ := u' (d' (Kd.eR HO200) hb)
     have n4_ := u' (d' (Kd.eR HO211) hb)
     have n5_ := u' (d' (Kd.eR HO214) hb)
     have n6_ := u' (c' (g := gb181) (o := .cells #[.string a0_0, .string a0_1, .string a0_2, .slice A0_3 l0_3.length c0_3, .slice A0_4 l0_4.length c0_4] 25 (0, 0)) (eB BK181) hb)
     have n7_ := u' (c' (g := gb182) (o := .cells #[.string a1_0, .string a1_1, .string a1_2, .slice A1_3 l1_3.length c1_3, .slice A1_4 l1_4.length c1_4] 25 (0, 0)) (eB BK182) hb)
     have n8_ := u' (c' (g := gb201) (o := .cells #[.string t183, .string t184, .string t185, .slice Ao28 t186.length co28, .slice Ao30 t189.length co30] 25 (0, 0)) (eB BK201) hb)
     have n9_ := u' (c' (g := gb202) (o := .cells #[.string t192, .string t193, .string t194, .slice Ao35 t195.length co35, .slice Ao37 t198.length co37] 25 (0, 0)) (eB BK202) hb)
     have n10_ := u' (g' (eH HB) hb)
     clear HO188
     clear HO191
     clear HO197
     clear HO200
     clear HO211
     clear HO214
     clear BK181
     clear BK182
     clear BK201
     clear BK202
     clear HB
     have HO188 := n0_
     have HO191 := n1_
     have HO197 := n2_
     have HO200 := n3_
     have HO211 := n4_
     have HO214 := n5_
     have BK181 := n6_
     have BK182 := n7_
     have BK201 := n8_
     have BK202 := n9_
     have HB := n10_
     clear n0_ n1_ n2_ n3_ n4_ n5_ n6_ n7_ n8_ n9_ n10_
     (try clear hb)
     (try clear hb2)
     (try clear hk)
     (try clear hi)
     refine hK.out _ _ ⟨(b' BK201.out 0).trans rfl, (b' BK201.out 1).trans rfl, (b' BK201.out 2).trans rfl, (b' BK201.out 3).trans rfl, (b' BK201.out 4).trans rfl, (b' BK202.out 0).trans rfl, (b' BK202.out 1).trans rfl, (b' BK202.out 2).trans rfl, (b' BK202.out 3).trans rfl, (b' BK202.out 4).trans rfl, (b' BK181.out 0).trans rfl, (b' BK181.out 1).trans rfl, (b' BK181.out 2).trans rfl, (b' BK181.out 3).trans rfl, (b' BK181.out 4).trans rfl, (b' BK182.out 0).trans rfl, (b' BK182.out 1).trans rfl, (b' BK182.out 2).trans rfl, (b' BK182.out 3).trans rfl, (b' BK182.out 4).trans rfl⟩ (fun hHeld => ?_)
     clear hK K
     refine norm_ (a' := ?_) ?_ ?_
     rotate_left
     ·
      show Act.put _ (some 26) _ = _
      simp only [Act.put, l', m', n', i64_w, i32_w]
      rfl
     refine pure_ (i := 13) (N := some 28) (v := ?_) (a' := ?_) #[Y,Y,Y,Y,Y,Y,Y,Y,Y,Y,Y,Y,Y,Y,Z,Z,Z,Z,Z,Z,Z,Z,Z,Z,Z,Z,Z,Z,Z] rfl rfl (any_of HT_.out (by kernel_rfl)) (fun _ _ _ h => h) (Or.inl ⟨by rfl, ?_⟩) ?_ ?_
     rotate_left
     ·
      intro w'
      go_simp
      with_reducible rfl
     rotate_left
     ·
      simp only [Act.put, l', m', n', i64_w, i32_w]
      rfl
     refine pure_ (i := 14) (N := some 29) (v := ?_) (a' := ?_) #[Y,Y,Y,Y,Y,Y,Y,Y,Y,Y,Y,Y,Y,Y,Y,Z,Z,Z,Z,Z,Z,Z,Z,Z,Z,Z,Z,Z,Z] rfl rfl (any_of HT_.out (by kernel_rfl)) (fun _ _ _ h => h) (Or.inl ⟨by rfl, ?_⟩) ?_ ?_
     rotate_left
     ·
      intro w'
      go_simp
      with_reducible rfl
     rotate_left
     ·
      simp only [Act.put, l', m', n', i64_w, i32_w]
      rfl
     refine pure_ (i := 15) (N := some 30) (v := ?_) (a' := ?_) #[Y,Y,Y,Y,Y,Y,Y,Y,Y,Y,Y,Y,Y,Y,Y,Y,Z,Z,Z,Z,Z,Z,Z,Z,Z,Z,Z,Z,Z] rfl rfl (any_of HT_.out (by kernel_rfl)) (fun _ _ _ h => h) (Or.inl ⟨by rfl, ?_⟩) ?_ ?_
     rotate_left
     ·
      intro w'
      go_simp
      with_reducible rfl
     rotate_left
     ·
      simp only [Act.put, l', m', n', i64_w, i32_w]
      rfl
     refine take_ (i := 16) (N := some 31) (v := ?_) (a' := ?_) #[Y,Y,Y,Y,Y,Y,Y,Y,Y,Y,Y,Y,Y,Y,Y,Y,Y,Z,Z,Z,Z,Z,Z,Z,Z,Z,Z,Z,Z] rfl rfl (take_ofW HT_.out HW_.out (by kernel_rfl)) (fun _ _ _ h => h) (Or.inl ⟨by rfl, ?_⟩) hHeld ?_ ?_
     rotate_left
     ·
      rintro w' ⟨s0, s1, s2, s3, s4, s5, s6, s7, s8, s9, s10, s11, s12, s13, s14, s15, s16, s17, s18, s19⟩
      go_simp
      with_reducible rfl
     rotate_left
     ·
      simp only [Act.put, l', m', n', i64_w, i32_w]
      rfl
     refine take_ (i := 17) (N := some 32) (v := ?_) (a' := ?_) #[Y,Y,Y,Y,Y,Y,Y,Y,Y,Y,Y,Y,Y,Y,Y,Y,Y,Y,Z,Z,Z,Z,Z,Z,Z,Z,Z,Z,Z] rfl rfl (take_ofW HT_.out HW_.out (by kernel_rfl)) (fun _ _ _ h => h) (Or.inl ⟨by rfl, ?_⟩) hHeld ?_ ?_
     rotate_left
     ·
      rintro w' ⟨s0, s1, s2, s3, s4, s5, s6, s7, s8, s9, s10, s11, s12, s13, s14, s15, s16, s17, s18, s19⟩
      go_simp
      with_reducible rfl
     rotate_left
     ·
      simp only [Act.put, l', m', n', i64_w, i32_w]
      rfl
     refine one_ (i := 18) (N := some 33) #[Y,Y,Y,Y,Y,Y,Y,Y,Y,Y,Y,Y,Y,Y,Y,Y,Y,Y,Y,Z,Z,Z,Z,Z,Z,Z,Z,Z,Z] rfl rfl (one_of HT_.out (by kernel_rfl)) (by decide) (fun K hK => ?_)
     refine goes_ Tryz.func15 (by kernel_rfl) rfl #[.agg #[.string t183, .string t184, .string t185, .slice Ao28 t186.length co28, .slice Ao30 t189.length co30], .agg #[.string a0_0, .string a0_1, .string a0_2, .slice A0_3 l0_3.length c0_3, .slice A0_4 l0_4.length c0_4]] (by rfl) rfl rfl (by (try simp only [o', p', q']); first | done | rfl | (simp only [r', s']; rfl)) ?_
     with_reducible refine (fanlightplain_SameTree.calls k t183 t184 t185 _ _ t186 _ _ t189 a0_0 a0_1 a0_2 _ _ l0_3 _ _ l0_4 true _ ?side1 ?side2 ?side3 ?side4 ?side5 ?side6 ?side7 ?side8 A12.out).mono ?_
     (case side1 => exact Kd.kC (j' HO188.out).2.2)
     (case side2 => exact (j' HO188.out).2.1)
     (case side3 => exact Kd.kC (j' HO191.out).2.2)
     (case side4 => exact (j' HO191.out).2.1)
     (case side5 => exact Kd.eC HR0_3 HB)
     (case side6 => exact HC0_3.out)
     (case side7 => exact Kd.eC HR0_4 HB)
     (case side8 => exact HC0_4.out)
     rintro e w51 ⟨rfl, hb⟩
     refine ⟨_, rfl, ?_⟩
     have n0_ := u' (d' (Kd.eR HO188) hb)
     have n1_ := u' (d' (Kd.eR HO191) hb)
     have n2_ := u' (d' (Kd.eR HO197) hb)
     have n3_ := u' (d' (Kd.eR HO200) hb)
     have n4_ := u' (d' (Kd.eR HO211) hb)
     have n5_ := u' (d' (Kd.eR HO214) hb)
     have n6_ := u' (c' (g := gb181) (o := .cells #[.string a0_0, .string a0_1, .string a0_2, .slice A0_3 l0_3.length c0_3, .slice A0_4 l0_4.length c0_4] 25 (0, 0)) (eB BK181) hb)
     have n7_ := u' (c' (g := gb182) (o := .cells #[.string a1_0, .string a1_1, .string a1_2, .slice A1_3 l1_3.length c1_3, .slice A1_4 l1_4.length c1_4] 25 (0, 0)) (eB BK182) hb)
     have n8_ := u' (c' (g := gb201) (o := .cells #[.string t183, .string t184, .string t185, .slice Ao28 t186.length co28, .slice Ao30 t189.length co30] 25 (0, 0)) (eB BK201) hb)
     have n9_ := u' (c' (g := gb202) (o := .cells #[.string t192, .string t193, .string t194, .slice Ao35 t195.length co35, .slice Ao37 t198.length co37] 25 (0, 0)) (eB BK202) hb)
     have n10_ := u' (g' (eH HB) hb)
     clear HO188
     clear HO191
     clear HO197
     clear HO200
     clear HO211
     clear HO214
     clear BK181
     clear BK182
     clear BK201
     clear BK202
     clear HB
     have HO188 := n0_
     have HO191 := n1_
     have HO197 := n2_
     have HO200 := n3_
     have HO211 := n4_
     have HO214 := n5_
     have BK181 := n6_
     have BK182 := n7_
     have BK201 := n8_
     have BK202 := n9_
     have HB := n10_
     clear n0_ n1_ n2_ n3_ n4_ n5_ n6_ n7_ n8_ n9_ n10_
     (try clear hb)
     (try clear hb2)
     (try clear hk)
     (try clear hi)
     refine hK.out _ _ ⟨(b' BK201.out 0).trans rfl, (b' BK201.out 1).trans rfl, (b' BK201.out 2).trans rfl, (b' BK201.out 3).trans rfl, (b' BK201.out 4).trans rfl, (b' BK202.out 0).trans rfl, (b' BK202.out 1).trans rfl, (b' BK202.out 2).trans rfl, (b' BK202.out 3).trans rfl, (b' BK202.out 4).trans rfl, (b' BK181.out 0).trans rfl, (b' BK181.out 1).trans rfl, (b' BK181.out 2).trans rfl, (b' BK181.out 3).trans rfl, (b' BK181.out 4).trans rfl, (b' BK182.out 0).trans rfl, (b' BK182.out 1).trans rfl, (b' BK182.out 2).trans rfl, (b' BK182.out 3).trans rfl, (b' BK182.out 4).trans rfl⟩ (fun hHeld => ?_)
     clear hK K
     refine norm_ (a' := ?_) ?_ ?_
     rotate_left
     ·
      show Act.put _ (some 33) _ = _
      simp only [Act.put, l', m', n', i64_w, i32_w]
      rfl
     refine pure_ (i := 19) (N := some 34) (v := ?_) (a' := ?_) #[Y,Y,Y,Y,Y,Y,Y,Y,Y,Y,Y,Y,Y,Y,Y,Y,Y,Y,Y,Y,Z,Z,Z,Z,Z,Z,Z,Z,Z] rfl rfl (any_of HT_.out (by kernel_rfl)) (fun _ _ _ h => h) (Or.inl ⟨by rfl, ?_⟩) ?_ ?_
     rotate_left
     ·
      intro w'
      go_simp
      with_reducible rfl
     rotate_left
     ·
      simp only [Act.put, l', m', n', i64_w, i32_w]
      rfl
     refine pure_ (i := 20) (N := some 35) (v := ?_) (a' := ?_) #[Y,Y,Y,Y,Y,Y,Y,Y,Y,Y,Y,Y,Y,Y,Y,Y,Y,Y,Y,Y,Y,Z,Z,Z,Z,Z,Z,Z,Z] rfl rfl (any_of HT_.out (by kernel_rfl)) (fun _ _ _ h => h) (Or.inl ⟨by rfl, ?_⟩) ?_ ?_
     rotate_left
     ·
      intro w'
      go_simp
      with_reducible rfl
     rotate_left
     ·
      simp only [Act.put, l', m', n', i64_w, i32_w]
      rfl
     refine take_ (i := 21) (N := some 36) (v := ?_) (a' := ?_) #[Y,Y,Y,Y,Y,Y,Y,Y,Y,Y,Y,Y,Y,Y,Y,Y,Y,Y,Y,Y,Y,Y,Z,Z,Z,Z,Z,Z,Z] rfl rfl (take_ofW HT_.out HW_.out (by kernel_rfl)) (fun _ _ _ h => h) (Or.inl ⟨by rfl, ?_⟩) hHeld ?_ ?_
     rotate_left
     ·
      rintro w' ⟨s0, s1, s2, s3, s4, s5, s6, s7, s8, s9, s10, s11, s12, s13, s14, s15, s16, s17, s18, s19⟩
      go_simp
      with_reducible rfl
     rotate_left
     ·
      simp only [Act.put, l', m', n', i64_w, i32_w]
      rfl
     refine take_ (i := 22) (N := some 37) (v := ?_) (a' := ?_) #[Y,Y,Y,Y,Y,Y,Y,Y,Y,Y,Y,Y,Y,Y,Y,Y,Y,Y,Y,Y,Y,Y,Y,Z,Z,Z,Z,Z,Z] rfl rfl (take_ofW HT_.out HW_.out (by kernel_rfl)) (fun _ _ _ h => h) (Or.inl ⟨by rfl, ?_⟩) hHeld ?_ ?_
     rotate_left
     ·
      rintro w' ⟨s0, s1, s2, s3, s4, s5, s6, s7, s8, s9, s10, s11, s12, s13, s14, s15, s16, s17, s18, s19⟩
      go_simp
      with_reducible rfl
     rotate_left
     ·
      simp only [Act.put, l', m', n', i64_w, i32_w]
      rfl
     refine one_ (i := 23) (N := some 38) #[Y,Y,Y,Y,Y,Y,Y,Y,Y,Y,Y,Y,Y,Y,Y,Y,Y,Y,Y,Y,Y,Y,Y,Y,Z,Z,Z,Z,Z] rfl rfl (one_of HT_.out (by kernel_rfl)) (by decide) (fun K hK => ?_)
     refine goes_ Tryz.func15 (by kernel_rfl) rfl #[.agg #[.string t192, .string t193, .string t194, .slice Ao35 t195.length co35, .slice Ao37 t198.length co37], .agg #[.string a1_0, .string a1_1, .string a1_2, .slice A1_3 l1_3.length c1_3, .slice A1_4 l1_4.length c1_4]] (by rfl) rfl rfl (by (try simp only [o', p', q']); first | done | rfl | (simp only [r', s']; rfl)) ?_
     with_reducible refine (fanlightplain_SameTree.calls k t192 t193 t194 _ _ t195 _ _ t198 a1_0 a1_1 a1_2 _ _ l1_3 _ _ l1_4 true _ ?side1 ?side2 ?side3 ?side4 ?side5 ?side6 ?side7 ?side8 A14.out).mono ?_
     (case side1 => exact Kd.kC (j' HO197.out).2.2)
     (case side2 => exact (j' HO197.out).2.1)
     (case side3 => exact Kd.kC (j' HO200.out).2.2)
     (case side4 => exact (j' HO200.out).2.1)
     (case side5 => exact Kd.eC HR1_3 HB)
     (case side6 => exact HC1_3.out)
     (case side7 => exact Kd.eC HR1_4 HB)
     (case side8 => exact HC1_4.out)
     rintro e w52 ⟨rfl, hb⟩
     refine ⟨_, rfl, ?_⟩
     have n0_ := u' (d' (Kd.eR HO188) hb)
     have n1_ := u' (d' (Kd.eR HO191) hb)
     have n2_ := u' (d' (Kd.eR HO197) hb)
     have n3_ := u' (d' (Kd.eR HO200) hb)
     have n4_ := u' (d' (Kd.eR HO211) hb)
     have n5_ := u' (d' (Kd.eR HO214) hb)
     have n6_ := u' (c' (g := gb181) (o := .cells #[.string a0_0, .string a0_1, .string a0_2, .slice A0_3 l0_3.length c0_3, .slice A0_4 l0_4.length c0_4] 25 (0, 0)) (eB BK181) hb)
     have n7_ := u' (c' (g := gb182) (o := .cells #[.string a1_0, .string a1_1, .string a1_2, .slice A1_3 l1_3.length c1_3, .slice A1_4 l1_4.length c1_4] 25 (0, 0)) (eB BK182) hb)
     have n8_ := u' (c' (g := gb201) (o := .cells #[.string t183, .string t184, .string t185, .slice Ao28 t186.length co28, .slice Ao30 t189.length co30] 25 (0, 0)) (eB BK201) hb)
     have n9_ := u' (c' (g := gb202) (o := .cells #[.string t192, .string t193, .string t194, .slice Ao35 t195.length co35, .slice Ao37 t198.length co37] 25 (0, 0)) (eB BK202) hb)
     have n10_ := u' (g' (eH HB) hb)
     clear HO188
     clear HO191
     clear HO197
     clear HO200
     clear HO211
     clear HO214
     clear BK181
     clear BK182
     clear BK201
     clear BK202
     clear HB
     have HO188 := n0_
     have HO191 := n1_
     have HO197 := n2_
     have HO200 := n3_
     have HO211 := n4_
     have HO214 := n5_
     have BK181 := n6_
     have BK182 := n7_
     have BK201 := n8_
     have BK202 := n9_
     have HB := n10_
     clear n0_ n1_ n2_ n3_ n4_ n5_ n6_ n7_ n8_ n9_ n10_
     (try clear hb)
     (try clear hb2)
     (try clear hk)
     (try clear hi)
     refine hK.out _ _ ⟨(b' BK201.out 0).trans rfl, (b' BK201.out 1).trans rfl, (b' BK201.out 2).trans rfl, (b' BK201.out 3).trans rfl, (b' BK201.out 4).trans rfl, (b' BK202.out 0).trans rfl, (b' BK202.out 1).trans rfl, (b' BK202.out 2).trans rfl, (b' BK202.out 3).trans rfl, (b' BK202.out 4).trans rfl, (b' BK181.out 0).trans rfl, (b' BK181.out 1).trans rfl, (b' BK181.out 2).trans rfl, (b' BK181.out 3).trans rfl, (b' BK181.out 4).trans rfl, (b' BK182.out 0).trans rfl, (b' BK182.out 1).trans rfl, (b' BK182.out 2).trans rfl, (b' BK182.out 3).trans rfl, (b' BK182.out 4).trans rfl⟩ (fun hHeld => ?_)
     clear hK K
     refine norm_ (a' := ?_) ?_ ?_
     rotate_left
     ·
      show Act.put _ (some 38) _ = _
      simp only [Act.put, l', m', n', i64_w, i32_w]
      rfl
     refine pure_ (i := 24) (N := some 39) (v := ?_) (a' := ?_) #[Y,Y,Y,Y,Y,Y,Y,Y,Y,Y,Y,Y,Y,Y,Y,Y,Y,Y,Y,Y,Y,Y,Y,Y,Y,Z,Z,Z,Z] rfl rfl (any_of HT_.out (by kernel_rfl)) (fun _ _ _ h => h) (Or.inl ⟨by rfl, ?_⟩) ?_ ?_
     rotate_left
     ·
      intro w'
      go_simp
      with_reducible rfl
     rotate_left
     ·
      simp only [Act.put, l', m', n', i64_w, i32_w]
      rfl
     refine pure_ (i := 25) (N := some 40) (v := ?_) (a' := ?_) #[Y,Y,Y,Y,Y,Y,Y,Y,Y,Y,Y,Y,Y,Y,Y,Y,Y,Y,Y,Y,Y,Y,Y,Y,Y,Y,Z,Z,Z] rfl rfl (any_of HT_.out (by kernel_rfl)) (fun _ _ _ h => h) (Or.inl ⟨by rfl, ?_⟩) ?_ ?_
     rotate_left
     ·
      intro w'
      go_simp
      with_reducible rfl
     rotate_left
     ·
      simp only [Act.put, l', m', n', i64_w, i32_w]
      rfl
     refine one_ (i := 26) (N := some 41) #[Y,Y,Y,Y,Y,Y,Y,Y,Y,Y,Y,Y,Y,Y,Y,Y,Y,Y,Y,Y,Y,Y,Y,Y,Y,Y,Y,Z,Z] rfl rfl (one_of HT_.out (by kernel_rfl)) (by decide) (fun K hK => ?_)
     refine goes_ Tryz.func16 (by kernel_rfl) rfl #[] (by rfl) rfl rfl (by (try simp only [o', p', q']); first | done | rfl | (simp only [r', s']; rfl)) ?_
     with_reducible refine (fanlightlaw09_alive.calls  t218 _ A16.out (hA _ A16.out)).mono ?_
     rintro e w53 ⟨rfl, hb⟩
     refine ⟨_, rfl, ?_⟩
     have n0_ := u' (d' (Kd.eR HO188) hb)
     have n1_ := u' (d' (Kd.eR HO191) hb)
     have n2_ := u' (d' (Kd.eR HO197) hb)
     have n3_ := u' (d' (Kd.eR HO200) hb)
     have n4_ := u' (d' (Kd.eR HO211) hb)
     have n5_ := u' (d' (Kd.eR HO214) hb)
     have n6_ := u' (c' (g := gb181) (o := .cells #[.string a0_0, .string a0_1, .string a0_2, .slice A0_3 l0_3.length c0_3, .slice A0_4 l0_4.length c0_4] 25 (0, 0)) (eB BK181) hb)
     have n7_ := u' (c' (g := gb182) (o := .cells #[.string a1_0, .string a1_1, .string a1_2, .slice A1_3 l1_3.length c1_3, .slice A1_4 l1_4.length c1_4] 25 (0, 0)) (eB BK182) hb)
     have n8_ := u' (c' (g := gb201) (o := .cells #[.string t183, .string t184, .string t185, .slice Ao28 t186.length co28, .slice Ao30 t189.length co30] 25 (0, 0)) (eB BK201) hb)
     have n9_ := u' (c' (g := gb202) (o := .cells #[.string t192, .string t193, .string t194, .slice Ao35 t195.length co35, .slice Ao37 t198.length co37] 25 (0, 0)) (eB BK202) hb)
     have n10_ := u' (g' (eH HB) hb)
     clear HO188
     clear HO191
     clear HO197
     clear HO200
     clear HO211
     clear HO214
     clear BK181
     clear BK182
     clear BK201
     clear BK202
     clear HB
     have HO188 := n0_
     have HO191 := n1_
     have HO197 := n2_
     have HO200 := n3_
     have HO211 := n4_
     have HO214 := n5_
     have BK181 := n6_
     have BK182 := n7_
     have BK201 := n8_
     have BK202 := n9_
     have HB := n10_
     clear n0_ n1_ n2_ n3_ n4_ n5_ n6_ n7_ n8_ n9_ n10_
     (try clear hb)
     (try clear hb2)
     (try clear hk)
     (try clear hi)
     refine hK.out _ _ ⟨(b' BK201.out 0).trans rfl, (b' BK201.out 1).trans rfl, (b' BK201.out 2).trans rfl, (b' BK201.out 3).trans rfl, (b' BK201.out 4).trans rfl, (b' BK202.out 0).trans rfl, (b' BK202.out 1).trans rfl, (b' BK202.out 2).trans rfl, (b' BK202.out 3).trans rfl, (b' BK202.out 4).trans rfl, (b' BK181.out 0).trans rfl, (b' BK181.out 1).trans rfl, (b' BK181.out 2).trans rfl, (b' BK181.out 3).trans rfl, (b' BK181.out 4).trans rfl, (b' BK182.out 0).trans rfl, (b' BK182.out 1).trans rfl, (b' BK182.out 2).trans rfl, (b' BK182.out 3).trans rfl, (b' BK182.out 4).trans rfl⟩ (fun hHeld => ?_)
     clear hK K
     refine norm_ (a' := ?_) ?_ ?_
     rotate_left
     ·
      show Act.put _ (some 41) _ = _
      simp only [Act.put, l', m', n', i64_w, i32_w]
      rfl
     refine pure_ (i := 27) (N := some 42) (v := ?_) (a' := ?_) #[Y,Y,Y,Y,Y,Y,Y,Y,Y,Y,Y,Y,Y,Y,Y,Y,Y,Y,Y,Y,Y,Y,Y,Y,Y,Y,Y,Y,Z] rfl rfl (any_of HT_.out (by kernel_rfl)) (fun _ _ _ h => h) (Or.inl ⟨by rfl, ?_⟩) ?_ ?_
     rotate_left
     ·
      intro w'
      go_simp
      with_reducible rfl
     rotate_left
     ·
      simp only [Act.put, l', m', n', i64_w, i32_w]
      rfl
     refine pure_ (i := 28) (N := some 4) (v := ?_) (a' := ?_) #[Y,Y,Y,Y,Y,Y,Y,Y,Y,Y,Y,Y,Y,Y,Y,Y,Y,Y,Y,Y,Y,Y,Y,Y,Y,Y,Y,Y,Y] rfl rfl (any_of HT_.out (by kernel_rfl)) (fun _ _ _ h => h) (Or.inl ⟨by rfl, ?_⟩) ?_ ?_
     rotate_left
     ·
      intro w'
      go_simp
      with_reducible rfl
     rotate_left
     ·
      simp only [Act.put, l', m', n', i64_w, i32_w]
      rfl
     refine done_ (done_of HT_.out (by kernel_rfl)) ?_
     try go_wp2
     go_ret
     exact ⟨by first | rfl | (simp [errW_none, errW_some] <;> rfl) | (simp [*, errW_none, errW_some] <;> rfl), eH HB⟩
    ·
     replace c15 := Bool.eq_false_iff.mpr c15
     subst c15
     have H1 : (some false) = some r := by rw [if_neg (show ¬ (false = true) by decide)] at H; exact H
     clear H
     have H := H1
     clear H1
     obtain rfl := Option.some.inj H
     cases hT
   ·
    replace c13 := Bool.eq_false_iff.mpr c13
    subst c13
    have H1 : (some false) = some r := by rw [if_neg (show ¬ (false = true) by decide)] at H; exact H
    clear H
    have H := H1
    clear H1
    obtain rfl := Option.some.inj H
    cases hT
  ·
   rw [if_neg c11] at H
   have c11b0 : (t215 == (t203 == 0)) = false := by simpa using c11
   (try (have c11b1 : decide (t215 = (t203 == 0)) = false := by simpa using c11))
   (try (have c11b2 : (t215 == (t203 == 0)) = false := by simpa using c11))
   (try (have c11b3 : ¬ (t215 = (t203 == 0)) := by simpa using c11))
   clear c11
   obtain rfl := Option.some.inj H
   cases hT
 ·
  rw [if_neg c8] at H
  have c8b0 : (t204 == t205) = false := by simpa using c8
  (try (have c8b1 : decide (t204 = t205) = false := by simpa using c8))
  (try (have c8b2 : (t204 == t205) = false := by simpa using c8))
  (try (have c8b3 : ¬ (t204 = t205) := by simpa using c8))
  clear c8
  obtain rfl := Option.some.inj H
  cases hT
end Go.Proofs.YtloocmeckpoflaaGreat.D
