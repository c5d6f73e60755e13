import Derived.Test.YtgmkgobapeencaaYS2
import Derived.Test.YtgmkgobapeencaaYAid3
set_option maxHeartbeats 8000000
set_option maxRecDepth 100000
namespace Go.Proofs.Ytgmkgobapeencaa.S
open Go.Proofs.YtgmkgobapeencaaW.PrintWords.Aside0 renaming mk → b'
open Bool renaming true → Y, false → Z
open Go.RowKit Go.Proofs.YtgmkgobapeencaaW.PrintWords Go.Proofs.YtgmkgobapeencaaW.PrintLast Go.Proofs.YtgmkgobapeencaaW.PrintMore
attribute [local go_sem] max2_int min2_int max_two min_two max_three min_three max_four min_four   -- for this text's walks alone
set_option linter.unusedVariables false
set_option linter.unusedSimpArgs false
def fanlightplain_CopyBytes.f (l0 : List Int) : Option (List Int) := if ([] : List Int).length + l0.length < 140737488355328 then (some (([] : List Int) ++ l0)) else (none)
theorem fanlightplain_CopyBytes.calls (A0 : Option Addr) (c0 : Nat) (l0 : List Int) (r : List Int) (w : World) (hr0 : Kd.C (Kd.int .u8) w A0 l0.length l0) (hc0 : l0.length ≤ c0) (h : fanlightplain_CopyBytes.f l0 = some r) :
  Calls Try.prog 10 #[.slice A0 l0.length c0] w fun e w' => ∃ v0_ : Value, e = .returned (v0_) ∧ Kd.R (Kd.int .u8) 5 w' w.heap.size (fun _ => True) v0_ r ∧ Below w.heap.size w w' := by
 have HR0 := b' hr0
 have HC0 := b' hc0
 clear hr0 hc0
 have HB := b' (Below.refl w.heap.size w)
 have H : (if ([] : List Int).length + l0.length < 140737488355328 then (some (([] : List Int) ++ l0)) else (none)) = some r := h
 clear h
 by_cases c2 : ([] : List Int).length + l0.length < 140737488355328
 ·
  rw [if_pos c2] at H
  have LMc2 := b' c2
  clear c2
  obtain ⟨y244, hy244⟩ : ∃ y_ : List Int, y_ = (([] : List Int) ++ l0) := ⟨_, rfl⟩
  replace H : (some y244) = some r := by rw [hy244]; exact H
  have Ny244 := b' hy244
  clear hy244
  obtain rfl := Option.some.inj H
  go_enter Try.func10, Try.ntmps10
  go_wp2_with (first | ((with_reducible refine gate_builtin (b := .append) (xs := #[.tmp 4, .tmp 5]) rfl ?_); at_builtin; refine Kd.R_append_rows (Kd.int .u8) (w0 := w) w.heap.size rfl (.tmp 4) (.tmp 5) 25 5 (.int .u8 0) 1 rfl Try.underlying25 info5 rfl (by decide) (by omega) (.slice none 0 0) ([] : List Int) l0 _ _ _ (fun _ => True) (fun _ => False) rfl rfl ?aO ?aR (fun _ _ h => h) (fun _ h => h.elim) ?aF ?aB ?aS ?aL ?_; (case aR => exact Kd.cC HR0); (case aB => exact (eH HB)); (case aF => exact (fun _ _ => trivial)); (case aO => exact ((Kd.R_nil _ _ _ _ (fun _ => True)))); (case aS => exact (below_size (eH HB))); (case aL => have := LMc2.out; omega); intro v245 w3 ho hb hg hat; rw [← Ny244.out] at ho; have n0_ := b' (hb); have n1_ := b' (ho); clear HB; have HB := n0_; have HO246 := n1_; clear n0_ n1_; clear ho hb hg hat))
  go_ret
  exact ⟨_, eE, Kd.eR HO246, eH HB⟩
 ·
  rw [if_neg c2] at H
  exact absurd H (by simp)
def fanlightlaw06_Of.l0 : Nat → Int → List (List Int) → Int → List (List Int) → Int → Option ((List (List Int)) × Int)
 | 0, _, _, _, _, _ => none
 | k + 1, x4, x248000, x248001, x250000, x250001 => if x4 < (x248000.length : Int) then (if 0 ≤ x4 then ((fanlightplain_CopyBytes.f (rd_L1 x248000 x4)).bind fun t251 => (if x250000.length < 5864062014805 then (fanlightlaw06_Of.l0 k (wrap64 (x4 + 1)) x248000 x248001 (x250000 ++ [t251]) x250001) else (none))) else (none)) else (some (x250000, x250001))
def fanlightlaw06_Of.f (k : Nat) (l0_0 : List (List Int)) (a0_1 : Int) : Option ((List (List Int)) × Int) := fanlightlaw06_Of.l0 k 0 l0_0 a0_1 ([] : List (List Int)) a0_1
theorem fanlightlaw06_Of.mono_l : ∀ k, (∀ y0 y1 y2 y3 y4, LeO (fanlightlaw06_Of.l0 k y0 y1 y2 y3 y4) (fanlightlaw06_Of.l0 (k + 1) y0 y1 y2 y3 y4))
 | 0 => fun _ _ _ _ _ r h => by simp [fanlightlaw06_Of.l0] at h
 | k + 1 => by
  have ih0 := fanlightlaw06_Of.mono_l k
  ·
   intro y0 y1 y2 y3 y4
   unfold fanlightlaw06_Of.l0
   repeat' first
   | (with_reducible exact ih0 _ _ _ _ _)
   | with_reducible first | exact LeO.refl _ | exact LeO.none _ | refine LeO.ite ?_ ?_ | refine LeO.bind ?_ fun _ => ?_
theorem fanlightlaw06_Of.mono : ∀ a0 a1 k, LeO (fanlightlaw06_Of.f k a0 a1) (fanlightlaw06_Of.f (k + 1) a0 a1) := by
 intro a0 a1 k
 have ih0 := fanlightlaw06_Of.mono_l k
 unfold fanlightlaw06_Of.f
 repeat' first
   | (with_reducible exact ih0 _ _ _ _ _)
   | with_reducible first | exact LeO.refl _ | exact LeO.none _ | refine LeO.ite ?_ ?_ | refine LeO.bind ?_ fun _ => ?_
def fanlightlaw06_Of.T5 : Bool × List (List Nat × List Nat) := (true,[([],[]),([0],[0]),([],[]),([2],[2]),([],[]),([3,4],[3,4]),([5],[5]),([6],[6]),([7],[7]),([1,8,7],[1,8]),([0,1,2,3,4,5,6,7,8,9],[]),([10,9,9,0,1,2,3,4,5,6,7,8,9],[9,10])])
def fanlightlaw06_Of.B5 : List Nat := [0,1,0,4,0,28,60,124,252,511,1023,2047]
theorem fanlightlaw06_Of.tab5 : rtab .any (opsOf Try.f9 5) = fanlightlaw06_Of.T5 := by kernel_rfl
theorem fanlightlaw06_Of.bits5 : waitsOk fanlightlaw06_Of.T5.2 fanlightlaw06_Of.B5 = true := by kernel_rfl
theorem fanlightlaw06_Of.calls (k : Nat) (A0_0 : Option Addr) (c0_0 : Nat) (l0_0 : List (List Int)) (a0_1 : Int) (r1 : List (List Int)) (r2 : Int) (w : World) (hr0_0 : Kd.C (Kd.slice 5 (Kd.int .u8)) w A0_0 l0_0.length l0_0) (hc0_0 : l0_0.length ≤ c0_0) (h : fanlightlaw06_Of.f k l0_0 a0_1 = some (r1, r2)) :
  Calls Try.prog 9 #[.agg #[.slice A0_0 l0_0.length c0_0, .int .i64 a0_1]] w fun e w' => ∃ v0_ : Value, e = .returned (.agg #[v0_, .int .i64 r2]) ∧ Kd.S (Kd.slice 5 (Kd.int .u8)) 25 w' w.heap.size (fun _ => True) v0_ r1 ∧ Below w.heap.size w w' := by
 have hu24 := Try.underlying24
 have hu27 := Try.underlying27
 have HR0_0 := b' hr0_0
 have HC0_0 := b' hc0_0
 clear hr0_0 hc0_0
 have HB := b' (Below.refl w.heap.size w)
 have H : (fanlightlaw06_Of.l0 k 0 l0_0 a0_1 ([] : List (List Int)) a0_1) = some (r1, r2) := h
 clear h
 have H' := b' H
 clear H
 go_enter Try.func9, Try.ntmps9
 go_wp2_with (first | ((with_reducible refine gate_dst (N := 1) rfl ?_); refine box_event ?hg (N := 1) ?hd (cs := #[.slice A0_0 l0_0.length c0_0, .int .i64 a0_1]) (t := 24) ?hr ?_; (case hd => rfl); (case hg => rfl); (case hr => go_simp <;> rfl); intro gb247 hg w2 hbox hb; have n0_ := b' (below_step (eH HB) hb); have n1_ := b' (hbox); have n2_ := b' ((by rw [hg]; exact (below_size (eH HB)) : w.heap.size ≤ gb247)); have n3_ := b' ((by rw [hg]; exact (below_size (eH HB)) : w.heap.size ≤ gb247)); clear HB; have HB := n0_; have BK247 := n1_; have GW247 := n2_; have GE247 := n3_; clear n0_ n1_ n2_ n3_; clear hb hbox hg) | ((with_reducible refine gate_dst (N := 2) rfl ?_); refine box_event ?hg (N := 2) ?hd (cs := #[.slice none 0 0, .int .i64 0]) (t := 27) ?hr ?_; (case hd => rfl); (case hg => rfl); (case hr => go_simp <;> rfl); intro gb248 hg w3 hbox hb; have n0_ := bB BK247 hb; have n1_ := b' (below_step (eH HB) hb); have n2_ := b' (hbox); have n3_ := b' ((by rw [hg]; exact (below_size (eH HB)) : w.heap.size ≤ gb248)); have n4_ := b' ((by rw [hg]; exact (below_size (eH HB)) : w.heap.size ≤ gb248)); have n5_ := nL hg BK247; have n6_ := nG hg BK247; clear BK247; clear HB; have BK247 := n0_; have HB := n1_; have BK248 := n2_; have GW248 := n3_; have GE248 := n4_; have NB247_248 := n5_; have NB248_247 := n6_; clear n0_ n1_ n2_ n3_ n4_ n5_ n6_; clear hb hbox hg; have hnb4 := NB247_248.out; have hnc4 := NB248_247.out; have hcz5_0 := bC BK247 0 (.slice A0_0 l0_0.length c0_0); have hcz5_1 := bC BK247 1 (.int .i64 a0_1); have hfz5_0 := blk_frozen BK247.out 0; have hfz5_1 := blk_frozen BK247.out 1) | ((with_reducible refine gate_dst (N := 3) rfl ?_); refine box_event ?hg (N := 3) ?hd (cs := #[.slice none 0 0, .int .i64 0]) (t := 27) ?hr ?_; (case hd => rfl); (case hg => rfl); (case hr => go_simp <;> rfl); intro gb249 hg w6 hbox hb; have n0_ := bB BK247 hb; have n1_ := bB BK248 hb; have n2_ := b' (below_step (eH HB) hb); have n3_ := b' (hbox); have n4_ := b' ((by rw [hg]; exact (below_size (eH HB)) : w.heap.size ≤ gb249)); have n5_ := b' ((by rw [hg]; exact (below_size (eH HB)) : w.heap.size ≤ gb249)); have n6_ := nL hg BK247; have n7_ := nG hg BK247; have n8_ := nL hg BK248; have n9_ := nG hg BK248; clear BK247; clear BK248; clear HB; have BK247 := n0_; have BK248 := n1_; have HB := n2_; have BK249 := n3_; have GW249 := n4_; have GE249 := n5_; have NB247_249 := n6_; have NB249_247 := n7_; have NB248_249 := n8_; have NB249_248 := n9_; clear n0_ n1_ n2_ n3_ n4_ n5_ n6_ n7_ n8_ n9_; clear hb hbox hg; have hnb7 := NB249_247.out; have hnc7 := NB247_249.out; have hnb8 := NB249_248.out; have hnc8 := NB248_249.out; have hcz9_0 := bC BK249 0 (.slice none 0 0); have hcz9_1 := bC BK249 1 (.int .i64 0); have hfz9_0 := blk_frozen BK249.out 0; have hfz9_1 := blk_frozen BK249.out 1))
 go_loopg [4] k (fun kq v4 w' => ∃ (x4_1 : Int) (x250000_1 : List (List Int)) (u250000 : Value), v4 = .int .i64 x4_1 ∧ Aside0 (fanlightlaw06_Of.l0 kq x4_1 l0_0 a0_1 x250000_1 a0_1 = some (r1, r2)) ∧ Aside0 (kq ≤ k) ∧ Aside0 (Kd.S (Kd.slice 5 (Kd.int .u8)) 25 w' w.heap.size (fun _ => True) u250000 x250000_1) ∧ Aside0 (w'.heap[gb247]? = some (.cells #[(.slice A0_0 l0_0.length c0_0), .int .i64 a0_1] 24 (0, 0))) ∧ Aside0 (w'.heap[gb248]? = some (.cells #[(.slice none 0 0), .int .i64 0] 27 (0, 0))) ∧ Aside0 (w'.heap[gb249]? = some (.cells #[u250000, .int .i64 a0_1] 27 (0, 0))) ∧ Aside0 (Below w.heap.size w w'))
 case atStart => exact ⟨(0), (([] : List (List Int))), (.slice none 0 0), rS, H', ⟨Nat.le_refl _⟩, ⟨nS⟩, ⟨by refine eK ?_; refine blk_far ?_ NB247_249.out _; refine eK ?_; refine blk_far ?_ NB247_249.out _; refine eK ?_; exact BK247.out⟩, ⟨by refine eK ?_; refine blk_far ?_ NB248_249.out _; refine eK ?_; refine blk_far ?_ NB248_249.out _; refine eK ?_; exact BK248.out⟩, ⟨by refine eK ?_; refine blk_put (cs := #[.slice none 0 0, .int .i64 0]) ?_ 1 _ rfl; refine eK ?_; refine blk_put (cs := #[.slice none 0 0, .int .i64 0]) ?_ 0 _ rfl; refine eK ?_; exact BK249.out⟩, ⟨eH HB⟩⟩
 case round =>
  clear H'
  try clear p2
  try clear c4
  try clear c7
  try clear c8
  try clear c9
  try clear hcz5_0
  try clear hcz5_1
  try clear hcz9_0
  try clear hcz9_1
  try clear hfz5_0
  try clear hfz5_1
  try clear hfz9_0
  try clear hfz9_1
  obtain ⟨x4_1, x250000_1, u250000, rfl, HA, HK1, HO_250000, BK247, BK248, BK249, HB⟩ := hrel
  cases gk with
  | zero => exact absurd HA.out (by simp [fanlightlaw06_Of.l0])
  | succ k1 =>
   have H := HA.out
   clear HA
   simp only [fanlightlaw06_Of.l0] at H
   by_cases c10 : x4_1 < (l0_0.length : Int)
   ·
    rw [if_pos c10] at H
    have c10b0 := decide_eq_true c10
    clear c10
    by_cases c11 : 0 ≤ x4_1
    ·
     rw [if_pos c11] at H
     have c11b0 := decide_eq_true c11
     clear c11
     replace H := Option.bind_eq_some_iff.mp H
     obtain ⟨t251, A120, H⟩ := H
     (try dsimp only at H)
     have A12 := b' A120
     clear A120
     by_cases c13 : x250000_1.length < 5864062014805
     ·
      rw [if_pos c13] at H
      have LMc13 := b' c13
      clear c13
      obtain ⟨y254, hy254⟩ : ∃ y_ : List (List Int), y_ = (x250000_1 ++ [t251]) := ⟨_, rfl⟩
      replace H : (fanlightlaw06_Of.l0 k1 (wrap64 (x4_1 + 1)) l0_0 a0_1 y254 a0_1) = some (r1, r2) := by rw [hy254]; exact H
      have Ny254 := b' hy254
      clear hy254
      have H' := b' H
      clear H
      have hnb14 := NB247_248.out
      have hnc14 := NB248_247.out
      have hnb15 := NB247_249.out
      have hnc15 := NB249_247.out
      have hcz16_0 := bC BK247 0 (.slice A0_0 l0_0.length c0_0)
      have hcz16_1 := bC BK247 1 (.int .i64 a0_1)
      have hfz16_0 := blk_frozen BK247.out 0
      have hfz16_1 := blk_frozen BK247.out 1
      try go_wp2
      have n0_ := b' (Kd.S_drew HO_250000.out)
      have n1_ := b' (blk_drew BK247.out)
      have n2_ := b' (blk_drew BK248.out)
      have n3_ := b' (blk_drew BK249.out)
      have n4_ := b' (below_drew1 HB.out)
      clear HO_250000
      clear BK247
      clear BK248
      clear BK249
      clear HB
      have HO_250000 := n0_
      have BK247 := n1_
      have BK248 := n2_
      have BK249 := n3_
      have HB := n4_
      clear n0_ n1_ n2_ n3_ n4_
      have p250 : 0 ≤ (x4_1 : Int) := oD
      have q250 : x4_1 < (l0_0.length : Int) := oD
      obtain ⟨ad250, A250_0, c250_0, e250, hx250_0, hl250_0, hi250_0⟩ := at_L1 HR0_0.out x4_1 p250 q250
      have hw250_0 := hx250_0
      cases e250
      replace hx250_0 := (HB.out.cell (World.block_lt_of_cell? w _ hx250_0)).trans hx250_0
      have HR250_0 := b' hi250_0
      have HC250_0 := b' hl250_0
      clear hi250_0 hl250_0
      replace p250 := eq_true p250
      replace q250 := eq_true q250
      refine start_ (n := 12) (S := fun w' => w'.cell? ⟨gb249, 0, none⟩ = some (u250000) ∧ w'.cell? ⟨gb249, 1, none⟩ = some (.int .i64 a0_1) ∧ w'.cell? ⟨gb247, 0, none⟩ = some (.slice (some ad250) l0_0.length c0_0) ∧ w'.cell? ⟨gb247, 1, none⟩ = some (.int .i64 a0_1) ∧ w'.cell? (ad250.add (x4_1).toNat) = some (.slice A250_0 (rd_L1 l0_0 x4_1).length c250_0)) (ds := [11]) #[Z,Z,Z,Z,Z,Z,Z,Z,Z,Z,Z,Z] (by kernel_rfl) rfl rfl ⟨(blk_cell BK249.out 0).trans rfl, (blk_cell BK249.out 1).trans rfl, (blk_cell BK247.out 0).trans rfl, (blk_cell BK247.out 1).trans rfl, ((HB.out.cell (World.block_lt_of_cell? w _ hw250_0)).trans hw250_0)⟩ (fun hHeld => ?_); refine with_tabW fanlightlaw06_Of.tab5 fanlightlaw06_Of.bits5 (fun HT_ HW_ => ?_)
      generalize wr.drew = w17 at HO_250000 BK247 BK248 BK249 HB HR250_0 hx250_0 hHeld ⊢
      refine pP 0 15 #[Y,Z,Z,Z,Z,Z,Z,Z,Z,Z,Z,Z] HT_ (h := ?_)
      refine pP 2 17 #[Y,Z,Y,Z,Z,Z,Z,Z,Z,Z,Z,Z] HT_ (h := ?_)
      refine pP 4 19 #[Y,Z,Y,Z,Y,Z,Z,Z,Z,Z,Z,Z] HT_ (h := ?_)
      refine tP 1 16 #[Y,Y,Y,Z,Y,Z,Z,Z,Z,Z,Z,Z] HT_ HW_ hHeld (hy := by refine Or.inl ⟨by rfl, ?_⟩; rintro w' ⟨s0, s1, s2, s3, s4⟩; go_simp; with_reducible rfl) (h := ?_)
      refine tP 3 18 #[Y,Y,Y,Y,Y,Z,Z,Z,Z,Z,Z,Z] HT_ HW_ hHeld (hy := by refine Or.inl ⟨by rfl, ?_⟩; rintro w' ⟨s0, s1, s2, s3, s4⟩; go_simp; with_reducible rfl) (h := ?_)
      refine pP 5 20 #[Y,Y,Y,Y,Y,Y,Z,Z,Z,Z,Z,Z] HT_ (h := ?_)
      refine tP 6 21 #[Y,Y,Y,Y,Y,Y,Y,Z,Z,Z,Z,Z] HT_ HW_ hHeld (hy := by refine Or.inl ⟨by rfl, ?_⟩; rintro w' ⟨s0, s1, s2, s3, s4⟩; go_simp; with_reducible rfl) (h := ?_)
      refine one_ (i := 7) (N := some 22) #[Y,Y,Y,Y,Y,Y,Y,Y,Z,Z,Z,Z] rfl rfl (one_of HT_.out (by kernel_rfl)) (by decide) (fun K hK => ?_)
      refine goes_ Try.func10 (by kernel_rfl) rfl #[.slice A250_0 (rd_L1 l0_0 x4_1).length c250_0] (by rfl) rfl rfl (by (try simp only [List.map_toArray, List.map_cons, List.map_nil]); first | done | rfl | (simp only [List.length_drop, List.length_take]; rfl)) ?_
      with_reducible refine (fanlightplain_CopyBytes.calls _ _ (rd_L1 l0_0 x4_1) t251 _ ?side1 ?side2 A12.out).mono ?_
      (case side1 => exact Kd.eC HR250_0 HB)
      (case side2 => exact HC250_0.out)
      rintro e w18 ⟨v252, rfl, ho0, hb⟩
      refine ⟨_, rfl, ?_⟩
      have n0_ := b' (Kd.S_elder' (Kd.eS HO_250000) (Kd.R_base ho0) hb)
      have n1_ := b' (Kd.R_lower ho0 (below_size (eH HB)))
      have n2_ := bB BK247 hb
      have n3_ := bB BK248 hb
      have n4_ := bB BK249 hb
      have n5_ := b' (below_step (eH HB) hb)
      clear HO_250000
      clear BK247
      clear BK248
      clear BK249
      clear HB
      have HO_250000 := n0_
      have HO253 := n1_
      have BK247 := n2_
      have BK248 := n3_
      have BK249 := n4_
      have HB := n5_
      clear n0_ n1_ n2_ n3_ n4_ n5_
      (try clear hb)
      (try clear hb2)
      (try clear hk)
      (try clear hi)
      (try clear ho0)
      obtain ⟨Ao20, co20, eo20⟩ := Kd.R_slice HO253.out
      (first | subst eo20 | (injection eo20 with f1_ f2_ f3_; have f4_ := f1_.symm; have f5_ := f3_.symm; clear f1_ f2_ f3_; subst f4_; subst f5_))
      refine hK.out _ _ ⟨(blk_cell BK249.out 0).trans rfl, (blk_cell BK249.out 1).trans rfl, (blk_cell BK247.out 0).trans rfl, (blk_cell BK247.out 1).trans rfl, ((HB.out.cell (World.block_lt_of_cell? w _ hw250_0)).trans hw250_0)⟩ (fun hHeld => ?_)
      clear hK K
      refine norm_ (a' := ?_) ?_ ?_
      rotate_left
      ·
       show Act.put _ (some 22) _ = _
       exact uP
      refine one_ (i := 8) (N := some 23) #[Y,Y,Y,Y,Y,Y,Y,Y,Y,Z,Z,Z] rfl rfl (one_of HT_.out (by kernel_rfl)) (by decide) (fun K hK => ?_)
      refine value_ (w1 := ?_) (v := ?_) (by rfl) rfl ?_ ?_
      rotate_left 2
      ·
       go_simp
       constructor
       ·
        rfl
       ·
        rfl
      refine hK.out _ _ ⟨(blk_cell (blk_alloc BK249.out _) 0).trans rfl, (blk_cell (blk_alloc BK249.out _) 1).trans rfl, (blk_cell (blk_alloc BK247.out _) 0).trans rfl, (blk_cell (blk_alloc BK247.out _) 1).trans rfl, (World.cell?_alloc_lt _ _ _ (World.block_lt_of_cell? _ _ (((HB.out.cell (World.block_lt_of_cell? w _ hw250_0)).trans hw250_0)))).trans (((HB.out.cell (World.block_lt_of_cell? w _ hw250_0)).trans hw250_0))⟩ (fun hHeld => ?_)
      clear hK K
      refine norm_ (a' := ?_) ?_ ?_
      rotate_left
      ·
       show Act.put _ (some 23) _ = _
       exact uP
      refine one_ (i := 9) (N := some 24) #[Y,Y,Y,Y,Y,Y,Y,Y,Y,Y,Z,Z] rfl rfl (one_of HT_.out (by kernel_rfl)) (by decide) (fun K hK => ?_)
      refine Kd.S_append_step (Kd.slice 5 (Kd.int .u8)) (w0 := w) w.heap.size (by rfl) (.tmp 16) (.tmp 23) 22 25 (.slice none 0 0) 24 rfl Try.underlying22 info25 rfl (by decide) (by omega) u250000 x250000_1 t251 [.slice Ao20 t251.length co20] (fun _ => True) (fun k_ => some k_ = (.slice Ao20 t251.length co20 : Value).ownBlock) rfl rfl ?aP (fun k_ hk_ => ((Kd.R_mono (ok' := fun k_ => ((fun _ => True)) k_ ∧ some k_ ≠ (u250000 : Value).ownBlock) (Kd.R_apart' (HO253.out) (Kd.S_typed HO_250000.out) (by decide)) (fun k_ hk => ⟨trivial, hk.2⟩))).1 k_ hk_.symm) ?aF ?aO ?aB ?aS ?aL ?_
      (case aP => exact Kd.M_row (Kd.R_mono (Kd.R_tight rfl (Kd.R_mono (ok' := fun k_ => ((fun _ => True)) k_ ∧ some k_ ≠ (u250000 : Value).ownBlock) (Kd.R_apart' (HO253.out) (Kd.S_typed HO_250000.out) (by decide)) (fun k_ hk => ⟨trivial, hk.2⟩))) (fun _ h_ => h_)))
      (case aB => exact (eH HB))
      (case aF => exact (fun _ _ => trivial))
      (case aO => exact (Kd.kS (Kd.S_mono HO_250000.out (fun k_ hk => ⟨trivial, fun e_ => hk.2 e_⟩))))
      (case aS => exact (below_size (eH HB)))
      (case aL => have := LMc13.out; omega)
      intro v255 w19 ho hb hg hat
      rw [← Ny254.out] at ho
      have n0_ := b' (blk_grown (g := gb247) (o := .cells #[.slice (some ad250) l0_0.length c0_0, .int .i64 a0_1] 24 (0, 0)) (eB BK247) hg (Kd.S_ne HO_250000.out BK247.out (by decide)))
      have n1_ := b' (blk_grown (g := gb248) (o := .cells #[.slice none 0 0, .int .i64 0] 27 (0, 0)) (eB BK248) hg (Kd.S_ne HO_250000.out BK248.out (by decide)))
      have n2_ := b' (blk_grown (g := gb249) (o := .cells #[u250000, .int .i64 a0_1] 27 (0, 0)) (eB BK249) hg (Kd.S_ne HO_250000.out BK249.out (by decide)))
      have n3_ := b' (hb)
      have n4_ := b' (ho)
      clear BK247
      clear BK248
      clear BK249
      clear HB
      clear HO_250000
      clear HO253
      have BK247 := n0_
      have BK248 := n1_
      have BK249 := n2_
      have HB := n3_
      have HO256 := n4_
      clear n0_ n1_ n2_ n3_ n4_
      clear ho hb hg hat
      obtain ⟨Ao21, co21, eo21⟩ := Kd.S_slice HO256.out
      (first | subst eo21 | (injection eo21 with f1_ f2_ f3_; have f4_ := f1_.symm; have f5_ := f3_.symm; clear f1_ f2_ f3_; subst f4_; subst f5_))
      refine hK.out _ _ ⟨(blk_cell BK249.out 0).trans rfl, (blk_cell BK249.out 1).trans rfl, (blk_cell BK247.out 0).trans rfl, (blk_cell BK247.out 1).trans rfl, ((HB.out.cell (World.block_lt_of_cell? w _ hw250_0)).trans hw250_0)⟩ (fun hHeld => ?_)
      clear hK K
      refine norm_ (a' := ?_) ?_ ?_
      rotate_left
      ·
       show Act.put _ (some 24) _ = _
       exact uP
      refine pP 10 25 #[Y,Y,Y,Y,Y,Y,Y,Y,Y,Y,Y,Z] HT_ (h := ?_)
      refine last_ (i := 11) (N := none) #[Y,Y,Y,Y,Y,Y,Y,Y,Y,Y,Y,Y] rfl rfl (one_of HT_.out (by kernel_rfl)) (by decide) (fun K hK => ?_)
      have hs22 : w19.cell? ⟨gb249, 0, none⟩ = some (u250000) := (blk_cell BK249.out 0).trans rfl
      have hfs22 := blk_frozen BK249.out 0
      have hns22_0 := NB247_249.out
      have hns22_1 := NB248_249.out
      have hms22_0 := NB249_247.out
      have hms22_1 := NB249_248.out
      refine skip_ (w1 := ?_) (by rfl) rfl ?_ ?_
      rotate_left
      ·
       go_simp
       rfl
      refine hK.out _ _ ?_
      clear hK K
      refine done_ (done_of HT_.out (by kernel_rfl)) ?_
      try go_wp2
      go_roundg k1
      case measure => have := HK1.out; omega
      case rel => exact ⟨(wrap64 (x4_1 + 1)), (y254), (.slice Ao21 y254.length co21), rS, H', ⟨by have := HK1.out; omega⟩, ⟨by (with_reducible repeat (first | apply Kd.S_alloc | apply Kd.S_drewN | apply Kd.S_drew)); exact Kd.S_mono (Kd.S_far (p := ⟨gb249, 0, none⟩) (Kd.S_types HO256.out BK249.out (by decide)) (fun _ hk => hk.2) (.slice Ao21 y254.length co21)) (fun _ hk => trivial)⟩, ⟨by refine eK ?_; refine blk_far ?_ NB247_249.out _; refine eK ?_; exact BK247.out⟩, ⟨by refine eK ?_; refine blk_far ?_ NB248_249.out _; refine eK ?_; exact BK248.out⟩, ⟨by refine eK ?_; refine blk_put (cs := #[u250000, .int .i64 a0_1]) ?_ 0 _ rfl; refine eK ?_; exact BK249.out⟩, ⟨eH HB⟩⟩
     ·
      rw [if_neg c13] at H
      exact absurd H (by simp)
    ·
     rw [if_neg c11] at H
     exact absurd H (by simp)
   ·
    rw [if_neg c10] at H
    have c10b0 := decide_eq_false c10
    clear c10
    simp only [Option.some.injEq, Prod.mk.injEq] at H
    obtain ⟨rfl, rfl⟩ := H
    have hnb23 := NB247_248.out
    have hnc23 := NB248_247.out
    have hnb24 := NB247_249.out
    have hnc24 := NB249_247.out
    have hcz25_0 := bC BK247 0 (.slice A0_0 l0_0.length c0_0)
    have hcz25_1 := bC BK247 1 (.int .i64 a0_1)
    have hfz25_0 := blk_frozen BK247.out 0
    have hfz25_1 := blk_frozen BK247.out 1
    have hnb26 := NB249_248.out
    have hnc26 := NB248_249.out
    have hcz27_0 := bC BK249 0 (u250000)
    have hcz27_1 := bC BK249 1 (.int .i64 a0_1)
    have hfz27_0 := blk_frozen BK249.out 0
    have hfz27_1 := blk_frozen BK249.out 1
    obtain ⟨Ao28, co28, eo28⟩ := Kd.S_slice HO_250000.out
    subst eo28
    have hcz29_0 := bC BK248 0 (.slice none 0 0)
    have hcz29_1 := bC BK248 1 (.int .i64 0)
    have hfz29_0 := blk_frozen BK248.out 0
    have hfz29_1 := blk_frozen BK248.out 1
    go_wp2
    refine bodyPost_ret (results_cell_row rfl _ _ gb248 27 #[.slice Ao28 x250000_1.length co28, .int .i64 a0_1] (0, 0) _ rfl (by refine eK ?_; refine blk_put (cs := #[.slice Ao28 x250000_1.length co28, .int .i64 0]) ?_ 1 _ rfl; refine eK ?_; refine blk_put (cs := #[.slice none 0 0, .int .i64 0]) ?_ 0 _ rfl; refine eK ?_; exact BK248.out) Try.underlying27 rfl (by kernel_rfl)) rfl ?_
    exact ⟨_, eE, by (with_reducible repeat (first | apply Kd.S_alloc | apply Kd.S_drewN | apply Kd.S_drew)); exact Kd.S_mono (Kd.S_far (p := ⟨gb248, 1, none⟩) (Kd.S_far (p := ⟨gb248, 0, none⟩) (Kd.S_types HO_250000.out BK248.out (by decide)) (fun _ hk => hk.2) (.slice Ao28 x250000_1.length co28)) (fun _ hk => hk.2) (.int .i64 a0_1)) (fun _ hk => trivial), eH HB⟩
def fanlightref04_Copied.f (l0 : List Int) : Option (List Int) := if ([] : List Int).length + l0.length < 140737488355328 then (some (([] : List Int) ++ l0)) else (none)
theorem fanlightref04_Copied.calls (A0 : Option Addr) (c0 : Nat) (l0 : List Int) (r : List Int) (w : World) (hr0 : Kd.C (Kd.int .u8) w A0 l0.length l0) (hc0 : l0.length ≤ c0) (h : fanlightref04_Copied.f l0 = some r) :
  Calls Try.prog 45 #[.slice A0 l0.length c0] w fun e w' => ∃ v0_ : Value, e = .returned (v0_) ∧ Kd.R (Kd.int .u8) 5 w' w.heap.size (fun _ => True) v0_ r ∧ Below w.heap.size w w' := by
 have HR0 := b' hr0
 have HC0 := b' hc0
 clear hr0 hc0
 have HB := b' (Below.refl w.heap.size w)
 have H : (if ([] : List Int).length + l0.length < 140737488355328 then (some (([] : List Int) ++ l0)) else (none)) = some r := h
 clear h
 by_cases c2 : ([] : List Int).length + l0.length < 140737488355328
 ·
  rw [if_pos c2] at H
  have LMc2 := b' c2
  clear c2
  obtain ⟨y257, hy257⟩ : ∃ y_ : List Int, y_ = (([] : List Int) ++ l0) := ⟨_, rfl⟩
  replace H : (some y257) = some r := by rw [hy257]; exact H
  have Ny257 := b' hy257
  clear hy257
  obtain rfl := Option.some.inj H
  go_enter Try.func45, Try.ntmps45
  go_wp2_with (first | ((with_reducible refine gate_builtin (b := .append) (xs := #[.tmp 4, .tmp 5]) rfl ?_); at_builtin; refine Kd.R_append_rows (Kd.int .u8) (w0 := w) w.heap.size rfl (.tmp 4) (.tmp 5) 25 5 (.int .u8 0) 1 rfl Try.underlying25 info5 rfl (by decide) (by omega) (.slice none 0 0) ([] : List Int) l0 _ _ _ (fun _ => True) (fun _ => False) rfl rfl ?aO ?aR (fun _ _ h => h) (fun _ h => h.elim) ?aF ?aB ?aS ?aL ?_; (case aR => exact Kd.cC HR0); (case aB => exact (eH HB)); (case aF => exact (fun _ _ => trivial)); (case aO => exact ((Kd.R_nil _ _ _ _ (fun _ => True)))); (case aS => exact (below_size (eH HB))); (case aL => have := LMc2.out; omega); intro v258 w3 ho hb hg hat; rw [← Ny257.out] at ho; have n0_ := b' (hb); have n1_ := b' (ho); clear HB; have HB := n0_; have HO259 := n1_; clear n0_ n1_; clear ho hb hg hat))
  go_ret
  exact ⟨_, eE, Kd.eR HO259, eH HB⟩
 ·
  rw [if_neg c2] at H
  exact absurd H (by simp)
def fanlightref03_Number.l0 : Nat → List Int → Int → Int → Option (Int)
 | 0, _, _, _ => none
 | k + 1, x0, x3, x4 => if x4 < (x0.length : Int) then (if 0 ≤ x4 then (fanlightref03_Number.l0 k x0 (Go.bits .or .u64 (IntKind.u64.wrap (x3 * 256)) (IntKind.u64.wrap (rd x0 x4))) (wrap64 (x4 + 1))) else (none)) else (some x3)
def fanlightref03_Number.f (k : Nat) (l0 : List Int) : Option (Int) := fanlightref03_Number.l0 k l0 0 0
theorem fanlightref03_Number.mono_l : ∀ k, (∀ y0 y1 y2, LeO (fanlightref03_Number.l0 k y0 y1 y2) (fanlightref03_Number.l0 (k + 1) y0 y1 y2))
 | 0 => fun _ _ _ r h => by simp [fanlightref03_Number.l0] at h
 | k + 1 => by
  have ih0 := fanlightref03_Number.mono_l k
  ·
   intro y0 y1 y2
   unfold fanlightref03_Number.l0
   repeat' first
   | (with_reducible exact ih0 _ _ _)
   | with_reducible first | exact LeO.refl _ | exact LeO.none _ | refine LeO.ite ?_ ?_ | refine LeO.bind ?_ fun _ => ?_
theorem fanlightref03_Number.mono : ∀ a0 k, LeO (fanlightref03_Number.f k a0) (fanlightref03_Number.f (k + 1) a0) := by
 intro a0 k
 have ih0 := fanlightref03_Number.mono_l k
 unfold fanlightref03_Number.f
 repeat' first
   | (with_reducible exact ih0 _ _ _)
   | with_reducible first | exact LeO.refl _ | exact LeO.none _ | refine LeO.ite ?_ ?_ | refine LeO.bind ?_ fun _ => ?_
theorem fanlightref03_Number.calls (k : Nat) (A0 : Option Addr) (c0 : Nat) (l0 : List Int) (r : Int) (w : World) (hr0 : Kd.C (Kd.int .u8) w A0 l0.length l0) (hc0 : l0.length ≤ c0) (h : fanlightref03_Number.f k l0 = some r) :
  Calls Try.prog 49 #[.slice A0 l0.length c0] w fun e w' => e = .returned (.int .u64 r) ∧ Drawn0 w w' := by
 have HR0 := b' hr0
 have HC0 := b' hc0
 clear hr0 hc0
 have H : (fanlightref03_Number.l0 k l0 0 0) = some r := h
 clear h
 have H' := b' H
 clear H
 go_enter Try.func49, Try.ntmps49
 go_wp2
 go_loopg [3, 4] k (fun kq v3 v4 w' => ∃ (x3_1 : Int) (x4_1 : Int), v3 = .int .u64 x3_1 ∧ v4 = .int .i64 x4_1 ∧ Aside0 (fanlightref03_Number.l0 kq l0 x3_1 x4_1 = some r) ∧ Aside0 (kq ≤ k) ∧ Drawn0 w w')
 case atStart => exact ⟨(0), (0), rS, rS, H', ⟨Nat.le_refl _⟩, by repeat (first | exact Drawn0.refl _ | apply Drawn0.step)⟩
 case round =>
  clear H'
  obtain ⟨x3_1, x4_1, rfl, rfl, HA, HK1, ⟨m1, rfl⟩⟩ := hrel
  cases gk with
  | zero => exact absurd HA.out (by simp [fanlightref03_Number.l0])
  | succ k1 =>
   have H := HA.out
   clear HA
   simp only [fanlightref03_Number.l0] at H
   by_cases c2 : x4_1 < (l0.length : Int)
   ·
    rw [if_pos c2] at H
    have c2b0 := decide_eq_true c2
    clear c2
    by_cases c3 : 0 ≤ x4_1
    ·
     rw [if_pos c3] at H
     have c3b0 := decide_eq_true c3
     clear c3
     have H' := b' H
     clear H
     have p260 : 0 ≤ (x4_1 : Int) := oD
     have q260 : x4_1 < (l0.length : Int) := oD
     obtain ⟨ad260, e260, hx260_0⟩ := Kd.at_int HR0.out x4_1 p260 q260
     cases e260
     replace p260 := eq_true p260
     replace q260 := eq_true q260
     go_wp2
     go_roundg k1
     case measure => have := HK1.out; omega
     case rel => exact ⟨(Go.bits .or .u64 (IntKind.u64.wrap (x3_1 * 256)) (IntKind.u64.wrap (rd l0 x4_1))), (wrap64 (x4_1 + 1)), rS, rS, H', ⟨by have := HK1.out; omega⟩, by repeat (first | exact Drawn0.refl _ | apply Drawn0.step)⟩
    ·
     rw [if_neg c3] at H
     exact absurd H (by simp)
   ·
    rw [if_neg c2] at H
    have c2b0 := decide_eq_false c2
    clear c2
    obtain rfl := Option.some.inj H
    go_wp2
    go_ret
    exact ⟨by first | rfl | (simp; done) | (simp [*]; done), by repeat (first | exact Drawn0.refl _ | apply Drawn0.step)⟩
def fanlightref04_laid.f (a0 : Int) : Option (List Int) := some (([(a0) % 256, (a0 / 256) % 256, (a0 / 65536) % 256, (a0 / 16777216) % 256] : List Int))
theorem fanlightref04_laid.calls (a0 : Int) (r : List Int) (w : World) (h : fanlightref04_laid.f a0 = some r) :
  Calls Try.prog 54 #[.int .u32 a0] w fun e w' => ∃ v0_ : Value, e = .returned (v0_) ∧ Kd.R (Kd.int .u8) 5 w' w.heap.size (fun _ => True) v0_ r ∧ Below w.heap.size w w' := by
 have HB := b' (Below.refl w.heap.size w)
 have H : (some (([(a0) % 256, (a0 / 256) % 256, (a0 / 65536) % 256, (a0 / 16777216) % 256] : List Int))) = some r := h
 clear h
 obtain ⟨y261, hy261⟩ : ∃ y_ : List Int, y_ = (([(a0) % 256, (a0 / 256) % 256, (a0 / 65536) % 256, (a0 / 16777216) % 256] : List Int)) := ⟨_, rfl⟩
 replace H : (some y261) = some r := by rw [hy261]; exact H
 have Ny261 := b' hy261
 clear hy261
 obtain rfl := Option.some.inj H
 go_enter Try.func54, Try.ntmps54
 go_wp2_with (first | ((with_reducible refine gate_dst (N := 14) rfl ?_); refine Kd.R_lit (Kd.int .u8) _ 5 ?hg (N := 14) ?hd (xs := ([(a0) % 256, (a0 / 256) % 256, (a0 / 65536) % 256, (a0 / 16777216) % 256] : List Int)) (inner := [.int .u8 ((a0) % 256), .int .u8 ((a0 / 256) % 256), .int .u8 ((a0 / 65536) % 256), .int .u8 ((a0 / 16777216) % 256)]) (ok := fun _ => True) (okp := fun _ => True) ?hr ?hp (fun _ hk => hk) trivial (Below.refl _ _) (Nat.le_refl _) (by simp) ?_; (case hd => rfl); (case hg => rfl); (case hr => go_simp <;> rfl); (case hp => exact (Reps.one (show Kd.M (Kd.int .u8) _ _ _ ((a0) % 256) [.int .u8 ((a0) % 256)] from rfl) (Reps.one (show Kd.M (Kd.int .u8) _ _ _ ((a0 / 256) % 256) [.int .u8 ((a0 / 256) % 256)] from rfl) (Reps.one (show Kd.M (Kd.int .u8) _ _ _ ((a0 / 65536) % 256) [.int .u8 ((a0 / 65536) % 256)] from rfl) (Reps.one (show Kd.M (Kd.int .u8) _ _ _ ((a0 / 16777216) % 256) [.int .u8 ((a0 / 16777216) % 256)] from rfl) (Reps.none _ _)))))); intro v262 w2 ho3 hb hg_ hnew_; clear hg_ hnew_; (first | rw [← Ny261.out] at ho3 | (simp only [Int.reduceToNat] at ho3; rw [← Ny261.out] at ho3)); have n0_ := b' (Kd.R_lower ho3 (below_size (eH HB))); have n1_ := b' (below_step (eH HB) hb); clear HB; have HO263 := n0_; have HB := n1_; clear n0_ n1_; clear hb ho3))
 go_ret
 exact ⟨_, eE, Kd.eR HO263, eH HB⟩
mutual
def fanlightref04_Sum.l0 : Nat → List Int → Int → Int → Option (Int)
 | 0, _, _, _ => none
 | k + 1, x0, x3, x4 => if x4 < (x0.length : Int) then (if 0 ≤ x4 then (fanlightref04_Sum.l1 k x0 (Go.bits .xor .u32 x3 ((rd x0 x4) % 4294967296)) x4 0) else (none)) else (some (Go.bits .xor .u32 4294967295 x3))
def fanlightref04_Sum.l1 : Nat → List Int → Int → Int → Int → Option (Int)
 | 0, _, _, _, _ => none
 | k + 1, x0, x3, x4, x5 => if x5 < 8 then (if (Int.tmod x3 2) = 1 then (fanlightref04_Sum.l1 k x0 (Go.bits .xor .u32 ((Int.tdiv x3 2) % 4294967296) 3945912366) x4 (wrap64 (x5 + 1))) else (fanlightref04_Sum.l1 k x0 ((Int.tdiv x3 2) % 4294967296) x4 (wrap64 (x5 + 1)))) else (fanlightref04_Sum.l0 k x0 x3 (wrap64 (x4 + 1)))
end
def fanlightref04_Sum.f (k : Nat) (l0 : List Int) : Option (Int) := fanlightref04_Sum.l0 k l0 4294967295 0
theorem fanlightref04_Sum.mono_l : ∀ k, (∀ y0 y1 y2, LeO (fanlightref04_Sum.l0 k y0 y1 y2) (fanlightref04_Sum.l0 (k + 1) y0 y1 y2)) ∧ (∀ y0 y1 y2 y3, LeO (fanlightref04_Sum.l1 k y0 y1 y2 y3) (fanlightref04_Sum.l1 (k + 1) y0 y1 y2 y3))
 | 0 => ⟨fun _ _ _ r h => by simp [fanlightref04_Sum.l0] at h, fun _ _ _ _ r h => by simp [fanlightref04_Sum.l1] at h⟩
 | k + 1 => by
  obtain ⟨ih0, ih1⟩ := fanlightref04_Sum.mono_l k
  refine ⟨?_, ?_⟩
  ·
   intro y0 y1 y2
   unfold fanlightref04_Sum.l0
   repeat' first
   | (with_reducible exact ih0 _ _ _)
   | (with_reducible exact ih1 _ _ _ _)
   | with_reducible first | exact LeO.refl _ | exact LeO.none _ | refine LeO.ite ?_ ?_ | refine LeO.bind ?_ fun _ => ?_
  ·
   intro y0 y1 y2 y3
   unfold fanlightref04_Sum.l1
   repeat' first
   | (with_reducible exact ih0 _ _ _)
   | (with_reducible exact ih1 _ _ _ _)
   | with_reducible first | exact LeO.refl _ | exact LeO.none _ | refine LeO.ite ?_ ?_ | refine LeO.bind ?_ fun _ => ?_
theorem fanlightref04_Sum.mono : ∀ a0 k, LeO (fanlightref04_Sum.f k a0) (fanlightref04_Sum.f (k + 1) a0) := by
 intro a0 k
 obtain ⟨ih0, ih1⟩ := fanlightref04_Sum.mono_l k
 unfold fanlightref04_Sum.f
 repeat' first
   | (with_reducible exact ih0 _ _ _)
   | (with_reducible exact ih1 _ _ _ _)
   | with_reducible first | exact LeO.refl _ | exact LeO.none _ | refine LeO.ite ?_ ?_ | refine LeO.bind ?_ fun _ => ?_
theorem fanlightref04_Sum.calls (k : Nat) (A0 : Option Addr) (c0 : Nat) (l0 : List Int) (r : Int) (w : World) (hr0 : Kd.C (Kd.int .u8) w A0 l0.length l0) (hc0 : l0.length ≤ c0) (h : fanlightref04_Sum.f k l0 = some r) :
  Calls Try.prog 55 #[.slice A0 l0.length c0] w fun e w' => e = .returned (.int .u32 r) ∧ Drawn0 w w' := by
 have HR0 := b' hr0
 have HC0 := b' hc0
 clear hr0 hc0
 have H : (fanlightref04_Sum.l0 k l0 4294967295 0) = some r := h
 clear h
 have H' := b' H
 clear H
 go_enter Try.func55, Try.ntmps55
 go_wp2
 go_loopg [3, 4] k (fun kq v3 v4 w' => ∃ (x3_1 : Int) (x4_1 : Int), v3 = .int .u32 x3_1 ∧ v4 = .int .i64 x4_1 ∧ Aside0 (fanlightref04_Sum.l0 kq l0 x3_1 x4_1 = some r) ∧ Aside0 (kq ≤ k) ∧ Drawn0 w w')
 case atStart => exact ⟨(4294967295), (0), rS, rS, H', ⟨Nat.le_refl _⟩, by repeat (first | exact Drawn0.refl _ | apply Drawn0.step)⟩
 case round =>
  clear H'
  obtain ⟨x3_1, x4_1, rfl, rfl, HA, HK1, ⟨m1, rfl⟩⟩ := hrel
  cases gk with
  | zero => exact absurd HA.out (by simp [fanlightref04_Sum.l0])
  | succ k1 =>
   have H := HA.out
   clear HA
   simp only [fanlightref04_Sum.l0] at H
   by_cases c2 : x4_1 < (l0.length : Int)
   ·
    rw [if_pos c2] at H
    have c2b0 := decide_eq_true c2
    clear c2
    by_cases c3 : 0 ≤ x4_1
    ·
     rw [if_pos c3] at H
     have c3b0 := decide_eq_true c3
     clear c3
     have H' := b' H
     clear H
     have p264 : 0 ≤ (x4_1 : Int) := oD
     have q264 : x4_1 < (l0.length : Int) := oD
     obtain ⟨ad264, e264, hx264_0⟩ := Kd.at_int HR0.out x4_1 p264 q264
     cases e264
     replace p264 := eq_true p264
     replace q264 := eq_true q264
     go_wp2
     go_loopg [3, 5] k1 (fun kq v3 v5 w' => ∃ (x3_2 : Int) (x5_2 : Int), v3 = .int .u32 x3_2 ∧ v5 = .int .i64 x5_2 ∧ Aside0 (fanlightref04_Sum.l1 kq l0 x3_2 x4_1 x5_2 = some r) ∧ Aside0 (kq ≤ k1) ∧ Drawn0 w w')
     case atStart => exact ⟨(Go.bits .xor .u32 x3_1 ((rd l0 x4_1) % 4294967296)), (0), rS, rS, H', ⟨Nat.le_refl _⟩, by repeat (first | exact Drawn0.refl _ | apply Drawn0.step)⟩
     case round =>
      clear H'
      try clear c2
      try clear c2b0
      try clear p2
      try clear q2
      try clear hx2
      try clear c3
      try clear c3b0
      try clear hx264_0
      try clear p264
      try clear q264
      obtain ⟨x3_2, x5_2, rfl, rfl, HA, HK2, ⟨m2, rfl⟩⟩ := hrel
      cases gk with
      | zero => exact absurd HA.out (by simp [fanlightref04_Sum.l1])
      | succ k2 =>
       have H := HA.out
       clear HA
       simp only [fanlightref04_Sum.l1] at H
       by_cases c4 : x5_2 < 8
       ·
        rw [if_pos c4] at H
        have c4b0 := decide_eq_true c4
        clear c4
        by_cases c5 : (Int.tmod x3_2 2) = 1
        ·
         rw [if_pos c5] at H
         have c5b0 := beq_iff_eq.mpr c5
         have c5b1 := bne_eq_false_iff_eq.mpr c5
         clear c5
         have H' := b' H
         clear H
         go_wp2
         go_roundg k2
         case measure => have := HK1.out; have := HK2.out; omega
         case rel => exact ⟨(Go.bits .xor .u32 ((Int.tdiv x3_2 2) % 4294967296) 3945912366), (wrap64 (x5_2 + 1)), rS, rS, H', ⟨by have := HK1.out; have := HK2.out; omega⟩, by repeat (first | exact Drawn0.refl _ | apply Drawn0.step)⟩
        ·
         rw [if_neg c5] at H
         have c5b0 := beq_eq_false_iff_ne.mpr c5
         have c5b1 := bne_iff_ne.mpr c5
         have H' := b' H
         clear H
         go_wp2
         go_roundg k2
         case measure => have := HK1.out; have := HK2.out; omega
         case rel => exact ⟨((Int.tdiv x3_2 2) % 4294967296), (wrap64 (x5_2 + 1)), rS, rS, H', ⟨by have := HK1.out; have := HK2.out; omega⟩, by repeat (first | exact Drawn0.refl _ | apply Drawn0.step)⟩
       ·
        rw [if_neg c4] at H
        have c4b0 := decide_eq_false c4
        clear c4
        have H' := b' H
        clear H
        go_wp2
        go_roundg k2
        case measure => have := HK1.out; have := HK2.out; omega
        case rel => exact ⟨(x3_2), (wrap64 (x4_1 + 1)), rS, rS, H', ⟨by have := HK1.out; have := HK2.out; omega⟩, by repeat (first | exact Drawn0.refl _ | apply Drawn0.step)⟩
    ·
     rw [if_neg c3] at H
     exact absurd H (by simp)
   ·
    rw [if_neg c2] at H
    have c2b0 := decide_eq_false c2
    clear c2
    obtain rfl := Option.some.inj H
    go_wp2
    go_ret
    exact ⟨by first | rfl | (simp; done) | (simp [*]; done), by repeat (first | exact Drawn0.refl _ | apply Drawn0.step)⟩
end Go.Proofs.Ytgmkgobapeencaa.S
