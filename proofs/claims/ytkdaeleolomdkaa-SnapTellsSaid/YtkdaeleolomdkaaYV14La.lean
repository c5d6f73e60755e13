import Derived.Test.YtkdaeleolomdkaaYV0
import Derived.Test.YtkdaeleolomdkaaYV1
import Derived.Test.YtkdaeleolomdkaaYV10
import Derived.Test.YtkdaeleolomdkaaYV12
import Derived.Test.YtkdaeleolomdkaaYV13
import Derived.Test.YtkdaeleolomdkaaYV14L
namespace Go.Proofs.Ytkdaeleolomdkaa.V
open Go.Proofs.YtkdaeleolomdkaaW.PrintWords renaming below_set → b', blk_drewN → c', blk_alloc → d', blk_drew → e', pw_below_drewN → f', below_drew1 → g', below_alloc → h', blk_below → p', blk_cell → q', below_step → s', below_size → u'
open Go.Proofs.YtkdaeleolomdkaaW.PrintWords.Kd renaming C_drewN → j', C_alloc → k', R_drewN → l', R_alloc → m', C_drew → n', R_drew → o', C_below → r'
open List renaming setIfInBounds_toArray → v', set_cons_zero → x', set_cons_succ → y', map_toArray → z', map_cons → aa', map_nil → ab', length_drop → ac', length_take → ad'
open Go.Proofs.YtkdaeleolomdkaaW.PrintWords.Aside0 renaming mk → ae'
open Bool renaming true → Y, false → Z
open Go.RowKit Go.Proofs.YtkdaeleolomdkaaW.PrintWords Go.Proofs.YtkdaeleolomdkaaW.PrintLast Go.Proofs.YtkdaeleolomdkaaW.PrintMore
attribute [local go_sem] max2_int min2_int max_two min_two max_three min_three max_four min_four   -- for this text's walks alone
set_option linter.unusedVariables false
set_option linter.unusedSimpArgs false
set_option maxHeartbeats 8000000 in
set_option maxRecDepth 100000 in
theorem snap_Decode.calls.leaf0 (k : Nat) (A0 : Option Addr) (c0 : Nat) (l0 : List Int) (w : World) (HR0 : Aside0 ((Kd.int IntKind.u8).C w A0 l0.length l0)) (HC0 : Aside0 (l0.length ≤ c0)) (HB : Aside0 (Below w.heap.size w w)) (c2b0 : ((↑l0.length : Int) == 8160) = true) (c2b1 : ((↑l0.length : Int) != 8160) = false) (t186 : Int) (t187 : List Int) (t190 t191 : Int) (A3 : Aside0 (seal_Get.f l0 = some (t186, t187, t190, t191))) (c4b0 : (t191 == 0) = true) (c4b1 : (t191 != 0) = false) (c5b0 : (t186 == 3) = true) (c5b1 : (t186 != 3) = false) (c6b0 : decide ((↑t187.length : Int) < 16) = false) (c6b1 : decide (t187.length < 16) = false) (t193 : Int) (A14 : Aside0 (snap_number.f k t187 = some t193)) (c15b0 : (8 ≤ (↑t187.length : Int)) = True) (c15b1 : decide (8 ≤ (↑t187.length : Int)) = true) (y194 : List Int) (Ny194 : Aside0 (y194 = List.drop 8 t187)) (t198 : Int) (A16 : Aside0 (snap_number.f k y194 = some t198)) (c17b0 : (16 ≤ (↑t187.length : Int)) = True) (c17b1 : decide (16 ≤ (↑t187.length : Int)) = true) (y199 : List Int) (Ny199 : Aside0 (y199 = List.drop 16 t187)) (t203 : List Int) (A18 : Aside0 (bytes_Clone.f y199 = some t203)) (t207 : Int) (A19 : Aside0 (snap_Check.f k t193 t198 t203 = some t207)) (c20b0 : (t207 == 0) = true) (c20b1 : (t207 != 0) = false) (y208 : List Int) (Ny208 : Aside0 (y208 = [0])) (c21b0 : (0 ≤ t190) = True) (c21b1 : decide (0 ≤ t190) = true) (c22b0 : (t190 ≤ (↑l0.length : Int)) = True) (c22b1 : decide (t190 ≤ (↑l0.length : Int)) = true) (y211 : List Int) (Ny211 : Aside0 (y211 = List.drop t190.toNat l0)) (LMc23 : Aside0 (y208.length + y211.length < 140737488355328)) (y215 : List Int) (Ny215 : Aside0 (y215 = y208 ++ y211)) (t218 : Int) (A24 : Aside0 (slices_Max_byte_byte.f k y215 = some t218)) (c25b0 : decide (0 < t218) = true) :
    Calls Try.prog 17 #[Value.slice A0 l0.length c0] w fun e w' => ∃ v2_, e = Ending.returned (Value.tuple #[Value.agg #[Value.int IntKind.i64 0, Value.int IntKind.i64 0, v2_], Value.int IntKind.i64 23]) ∧ (Kd.int IntKind.u8).R 5 w' w.heap.size (fun x => True) v2_ [] ∧ Below w.heap.size w w' := by
  have hu25 := Try.underlying25
  have hu80 := Try.underlying80
  go_enter Try.func17, Try.ntmps17
  try go_wp2_with (first | ((with_reducible refine gate_dst (N := 2) rfl ?_); refine box_event ?hg (N := 2) ?hd (cs := #[.int .i64 0, .int .i64 0, .slice none 0 0]) (t := 25) ?hr ?_; (case hd => rfl); (case hg => rfl); (case hr => first | (go_simp; done) | (go_simp; rfl)); intro gb185 hg w26 hbox hb; have n0_ := ae' (s' (by repeat (first | (with_reducible first | exact HB.out | apply h' | apply f' | apply g') | exact HB.out)) hb); have n1_ := ae' (hbox); have n2_ := ae' ((by rw [hg]; exact (u' (by repeat (first | (with_reducible first | exact HB.out | apply h' | apply f' | apply g') | exact HB.out))) : w.heap.size ≤ gb185)); have n3_ := ae' ((by rw [hg]; exact (u' (by repeat (first | (with_reducible first | exact HB.out | apply h' | apply f' | apply g') | exact HB.out))) : w.heap.size ≤ gb185)); clear HB; have HB := n0_; have BK185 := n1_; have GW185 := n2_; have GE185 := n3_; clear n0_ n1_ n2_ n3_; clear hb hbox hg) | ((with_reducible refine gate_callee (f := 44) rfl ?_); refine goesL_ (some 15) rfl rfl Try.func44 (by kernel_rfl) rfl #[.slice A0 l0.length c0] rfl (by (try simp only [z', aa', ab']); first | done | rfl | (simp only [ac', ad']; rfl)) ?_; (with_reducible refine (seal_Get.calls _ _ l0 t186 t187 t190 t191 _ ?side1 ?side2 A3.out).mono ?_); (case side1 => repeat (first | exact (r' HR0.out HB.out) | (with_reducible refine k' ?_ _) | (with_reducible refine j' ?_ _) | (with_reducible refine n' ?_))); (case side2 => exact HC0.out); rintro e w27 ⟨v188, rfl, ho0, hb⟩; refine ⟨_, rfl, ?_⟩; have n0_ := ae' (Kd.R_lower ho0 (u' (by repeat (first | (with_reducible first | exact HB.out | apply h' | apply f' | apply g' | refine b' ?_ GE185.out) | exact HB.out)))); have n1_ := ae' (p' (g := gb185) (o := .cells #[.int .i64 0, .int .i64 0, .slice none 0 0] 25 (0, 0)) (by (with_reducible repeat (first | apply c' | apply e' | apply d')); exact BK185.out) hb); have n2_ := ae' (s' (by repeat (first | (with_reducible first | exact HB.out | apply h' | apply f' | apply g' | refine b' ?_ GE185.out) | exact HB.out)) hb); clear BK185; clear HB; have HO189 := n0_; have BK185 := n1_; have HB := n2_; clear n0_ n1_ n2_; (try clear hb); (try clear hb2); (try clear hk); (try clear hi); (try clear ho0)) | ((with_reducible refine gate_dst (N := 4) rfl ?_); refine box_event ?hg (N := 4) ?hd (cs := #[.int .i64 0, .slice none 0 0]) (t := 80) ?hr ?_; (case hd => rfl); (case hg => rfl); (case hr => first | (go_simp; done) | (go_simp; rfl)); intro gb192 hg w28 hbox hb; have n0_ := ae' (Kd.R_below (by (with_reducible repeat (first | apply m' | apply l' | apply o')); exact HO189.out) hb); have n1_ := ae' (p' (g := gb185) (o := .cells #[.int .i64 0, .int .i64 0, .slice none 0 0] 25 (0, 0)) (by (with_reducible repeat (first | apply c' | apply e' | apply d')); exact BK185.out) hb); have n2_ := ae' (s' (by repeat (first | (with_reducible first | exact HB.out | apply h' | apply f' | apply g' | refine b' ?_ GE185.out) | exact HB.out)) hb); have n3_ := ae' (hbox); have n4_ := ae' ((by rw [hg]; exact (u' (by repeat (first | (with_reducible first | exact HB.out | apply h' | apply f' | apply g' | refine b' ?_ GE185.out) | exact HB.out))) : w.heap.size ≤ gb192)); have n5_ := ae' ((by rw [hg]; exact (u' (by repeat (first | (with_reducible first | exact HB.out | apply h' | apply f' | apply g' | refine b' ?_ GE185.out) | exact HB.out))) : w.heap.size ≤ gb192)); have n6_ := ae' ((by rw [hg]; exact Nat.ne_of_lt (blk_lt (g := gb185) (o := .cells #[.int .i64 0, .int .i64 0, .slice none 0 0] 25 (0, 0)) (by (with_reducible repeat (first | apply c' | apply e' | apply d')); exact BK185.out)) : gb185 ≠ gb192)); have n7_ := ae' ((by rw [hg]; exact Nat.ne_of_gt (blk_lt (g := gb185) (o := .cells #[.int .i64 0, .int .i64 0, .slice none 0 0] 25 (0, 0)) (by (with_reducible repeat (first | apply c' | apply e' | apply d')); exact BK185.out)) : gb192 ≠ gb185)); clear HO189; clear BK185; clear HB; have HO189 := n0_; have BK185 := n1_; have HB := n2_; have BK192 := n3_; have GW192 := n4_; have GE192 := n5_; have NB185_192 := n6_; have NB192_185 := n7_; clear n0_ n1_ n2_ n3_ n4_ n5_ n6_ n7_; clear hb hbox hg; have hnb29 := NB192_185.out; have hnc29 := NB185_192.out; have hcz30_0 : w28.cell? ⟨gb192, 0, none⟩ = some (.int .i64 0) := (q' BK192.out 0).trans rfl; have hcz30_1 : w28.cell? ⟨gb192, 1, none⟩ = some (.slice none 0 0) := (q' BK192.out 1).trans rfl; have hfz30_0 := blk_frozen BK192.out 0; have hfz30_1 := blk_frozen BK192.out 1; obtain ⟨Ao31, co31, eo31⟩ := Kd.R_slice HO189.out; subst eo31))
  have n0_ : Aside0 (Kd.R (Kd.int .u8) 5 ((w28.setCell ⟨gb192, 0, none⟩ (.int .i64 t186)).setCell ⟨gb192, 1, none⟩ (.slice Ao31 t187.length co31)) w.heap.size (fun _ => True) (.slice Ao31 t187.length co31) t187) := ⟨by (with_reducible repeat (first | apply m' | apply l' | apply o')); exact Kd.R_mono (Kd.R_far (p := ⟨gb192, 1, none⟩) (Kd.R_far (p := ⟨gb192, 0, none⟩) (Kd.R_types HO189.out BK192.out (by decide)) (fun _ hk => hk.2) (.int .i64 t186)) (fun _ hk => hk.2) (.slice Ao31 t187.length co31)) (fun _ hk => trivial)⟩
  have n1_ : Aside0 (((w28.setCell ⟨gb192, 0, none⟩ (.int .i64 t186)).setCell ⟨gb192, 1, none⟩ (.slice Ao31 t187.length co31)).heap[gb185]? = some (.cells #[.int .i64 0, .int .i64 0, .slice none 0 0] 25 (0, 0))) := ⟨by (with_reducible repeat (first | apply c' | apply e' | apply d')); refine blk_far ?_ NB185_192.out _; (with_reducible repeat (first | apply c' | apply e' | apply d')); refine blk_far ?_ NB185_192.out _; (with_reducible repeat (first | apply c' | apply e' | apply d')); exact BK185.out⟩
  have n2_ : Aside0 (((w28.setCell ⟨gb192, 0, none⟩ (.int .i64 t186)).setCell ⟨gb192, 1, none⟩ (.slice Ao31 t187.length co31)).heap[gb192]? = some (.cells #[.int .i64 t186, .slice Ao31 t187.length co31] 80 (0, 0))) := ⟨by (with_reducible repeat (first | apply c' | apply e' | apply d')); refine blk_put (cs := #[.int .i64 t186, .slice none 0 0]) ?_ 1 _ rfl; (with_reducible repeat (first | apply c' | apply e' | apply d')); refine blk_put (cs := #[.int .i64 0, .slice none 0 0]) ?_ 0 _ rfl; (with_reducible repeat (first | apply c' | apply e' | apply d')); exact BK192.out⟩
  have n3_ : Aside0 (Below w.heap.size w ((w28.setCell ⟨gb192, 0, none⟩ (.int .i64 t186)).setCell ⟨gb192, 1, none⟩ (.slice Ao31 t187.length co31))) := ⟨by repeat (first | (with_reducible first | exact HB.out | apply h' | apply f' | apply g' | refine b' ?_ GE185.out | refine b' ?_ GE192.out) | exact HB.out)⟩
  (try clear HO189)
  (try clear BK185)
  (try clear BK192)
  (try clear HB)
  generalize ((w28.setCell ⟨gb192, 0, none⟩ (.int .i64 t186)).setCell ⟨gb192, 1, none⟩ (.slice Ao31 t187.length co31)) = w32 at n0_ n1_ n2_ n3_ ⊢
  have HO189 := n0_
  have BK185 := n1_
  have BK192 := n2_
  have HB := n3_
  clear n0_ n1_ n2_ n3_
  have n0_ := ae' (o' HO189.out)
  have n1_ := ae' (e' BK185.out)
  have n2_ := ae' (e' BK192.out)
  have n3_ := ae' (g' HB.out)
  clear HO189
  clear BK185
  clear BK192
  clear HB
  have HO189 := n0_
  have BK185 := n1_
  have BK192 := n2_
  have HB := n3_
  clear n0_ n1_ n2_ n3_
  have q34 : (8 : Int) ≤ ((t187.length : Int) : Int) := of_decide_eq_true (by first | (with_reducible assumption) | assumption)
  obtain ⟨i034, hi034, _, hsz34, _⟩ := info_parts info5
  have hroom34 : t187.length ≤ co31 := (Kd.R_reads' HO189.out).2.1
  have hC34 : Kd.C (Kd.int .u8) _ Ao31 t187.length t187 := (Kd.R_reads' HO189.out).2.2
  have hcut34 := cut_from (P := Try.prog) 22 5 .i64 Try.underlying22 hi034 1 hsz34 Ao31 t187.length co31 8 (by omega) q34
  have hr34 := Kd.C_drop (m := (8 : Int).toNat) (c := co31) hC34 (by omega) hroom34
  obtain ⟨A34, hA34⟩ : ∃ A1, A1 = (if co31 = (8 : Int).toNat then Ao31 else (Ao31 : Option Addr).map (·.add ((8 : Int).toNat * 1))) := ⟨_, rfl⟩
  obtain ⟨c34, hc34⟩ : ∃ c1, c1 = co31 - (8 : Int).toNat := ⟨_, rfl⟩
  have hy34 : y194.length = t187.length - (8 : Int).toNat := (by rw [Ny194.out, ac'] <;> omega)
  rw [show (t187).drop (8 : Int).toNat = y194 from Ny194.out.symm] at hr34
  replace hr34 : Kd.C (Kd.int .u8) _ A34 y194.length y194 := (by rw [hA34]; exact hr34)
  rw [← hy34, ← hA34, ← hc34] at hcut34
  have HR197 := ae' hr34
  have HC197 := ae' (show y194.length ≤ c34 from by rw [hy34, hc34]; exact Nat.sub_le_sub_right hroom34 _)
  clear hr34 hC34 hroom34 hi034 hsz34 hc34
  have KY34 := ae' hy34
  have KA34 := ae' hA34
  clear hy34 hA34
  have KL34 := ae' (show 8 ≤ t187.length from by omega)
  replace q34 := eq_true q34
  have q35 : (16 : Int) ≤ ((t187.length : Int) : Int) := of_decide_eq_true (by first | (with_reducible assumption) | assumption)
  obtain ⟨i035, hi035, _, hsz35, _⟩ := info_parts info5
  have hroom35 : t187.length ≤ co31 := (Kd.R_reads' HO189.out).2.1
  have hC35 : Kd.C (Kd.int .u8) _ Ao31 t187.length t187 := (Kd.R_reads' HO189.out).2.2
  have hcut35 := cut_from (P := Try.prog) 22 5 .i64 Try.underlying22 hi035 1 hsz35 Ao31 t187.length co31 16 (by omega) q35
  have hr35 := Kd.C_drop (m := (16 : Int).toNat) (c := co31) hC35 (by omega) hroom35
  obtain ⟨A35, hA35⟩ : ∃ A1, A1 = (if co31 = (16 : Int).toNat then Ao31 else (Ao31 : Option Addr).map (·.add ((16 : Int).toNat * 1))) := ⟨_, rfl⟩
  obtain ⟨c35, hc35⟩ : ∃ c1, c1 = co31 - (16 : Int).toNat := ⟨_, rfl⟩
  have hy35 : y199.length = t187.length - (16 : Int).toNat := (by rw [Ny199.out, ac'] <;> omega)
  rw [show (t187).drop (16 : Int).toNat = y199 from Ny199.out.symm] at hr35
  replace hr35 : Kd.C (Kd.int .u8) _ A35 y199.length y199 := (by rw [hA35]; exact hr35)
  rw [← hy35, ← hA35, ← hc35] at hcut35
  have HR202 := ae' hr35
  have HC202 := ae' (show y199.length ≤ c35 from by rw [hy35, hc35]; exact Nat.sub_le_sub_right hroom35 _)
  clear hr35 hC35 hroom35 hi035 hsz35 hc35
  have KY35 := ae' hy35
  have KA35 := ae' hA35
  clear hy35 hA35
  have KL35 := ae' (show 16 ≤ t187.length from by omega)
  replace q35 := eq_true q35
  refine start_ (n := 14) (S := fun w' => w'.cell? ⟨gb192, 0, none⟩ = some (.int .i64 t186) ∧ w'.cell? ⟨gb192, 1, none⟩ = some (.slice Ao31 t187.length co31)) (ds := []) #[Z,Z,Z,Z,Z,Z,Z,Z,Z,Z,Z,Z,Z,Z] (by kernel_rfl) rfl rfl ⟨(q' BK192.out 0).trans rfl, (q' BK192.out 1).trans rfl⟩ (fun hHeld => ?_); refine with_tabW snap_Decode.tab10 snap_Decode.bits10 (fun HT_ HW_ => ?_)
  generalize w32.drew = w33 at HO189 BK185 BK192 HB HR197 HR202 hHeld ⊢
  refine pure_ (i := 0) (N := some 35) (v := ?_) (a' := ?_) #[Y,Z,Z,Z,Z,Z,Z,Z,Z,Z,Z,Z,Z,Z] rfl rfl (any_of HT_.out (by kernel_rfl)) (fun _ _ _ h => h) (Or.inl ⟨by rfl, ?_⟩) ?_ ?_
  rotate_left
  · intro w'
    go_simp
    with_reducible rfl
  rotate_left
  · simp only [Act.put, v', x', y', i64_w, i32_w]
    rfl
  refine pure_ (i := 3) (N := some 38) (v := ?_) (a' := ?_) #[Y,Z,Z,Y,Z,Z,Z,Z,Z,Z,Z,Z,Z,Z] rfl rfl (any_of HT_.out (by kernel_rfl)) (fun _ _ _ h => h) (Or.inl ⟨by rfl, ?_⟩) ?_ ?_
  rotate_left
  · intro w'
    go_simp
    with_reducible rfl
  rotate_left
  · simp only [Act.put, v', x', y', i64_w, i32_w]
    rfl
  refine pure_ (i := 7) (N := some 42) (v := ?_) (a' := ?_) #[Y,Z,Z,Y,Z,Z,Z,Y,Z,Z,Z,Z,Z,Z] rfl rfl (any_of HT_.out (by kernel_rfl)) (fun _ _ _ h => h) (Or.inl ⟨by rfl, ?_⟩) ?_ ?_
  rotate_left
  · intro w'
    go_simp
    with_reducible rfl
  rotate_left
  · simp only [Act.put, v', x', y', i64_w, i32_w]
    rfl
  refine take_ (i := 1) (N := some 36) (v := ?_) (a' := ?_) #[Y,Y,Z,Y,Z,Z,Z,Y,Z,Z,Z,Z,Z,Z] rfl rfl (take_ofW HT_.out HW_.out (by kernel_rfl)) (fun _ _ _ h => h) (Or.inl ⟨by rfl, ?_⟩) hHeld ?_ ?_
  rotate_left
  · rintro w' ⟨s0, s1⟩
    go_simp
    with_reducible rfl
  rotate_left
  · simp only [Act.put, v', x', y', i64_w, i32_w]
    rfl
  refine take_ (i := 4) (N := some 39) (v := ?_) (a' := ?_) #[Y,Y,Z,Y,Y,Z,Z,Y,Z,Z,Z,Z,Z,Z] rfl rfl (take_ofW HT_.out HW_.out (by kernel_rfl)) (fun _ _ _ h => h) (Or.inl ⟨by rfl, ?_⟩) hHeld ?_ ?_
  rotate_left
  · rintro w' ⟨s0, s1⟩
    go_simp
    with_reducible rfl
  rotate_left
  · simp only [Act.put, v', x', y', i64_w, i32_w]
    rfl
  refine pure_ (i := 5) (N := some 40) (v := ?_) (a' := ?_) #[Y,Y,Z,Y,Y,Y,Z,Y,Z,Z,Z,Z,Z,Z] rfl rfl (any_of HT_.out (by kernel_rfl)) (fun _ _ _ h => h) (Or.inl ⟨by rfl, ?_⟩) ?_ ?_
  rotate_left
  · intro w'
    go_simp
    with_reducible rfl
  rotate_left
  · simp only [Act.put, v', x', y', i64_w, i32_w]
    rfl
  refine take_ (i := 8) (N := some 43) (v := ?_) (a' := ?_) #[Y,Y,Z,Y,Y,Y,Z,Y,Y,Z,Z,Z,Z,Z] rfl rfl (take_ofW HT_.out HW_.out (by kernel_rfl)) (fun _ _ _ h => h) (Or.inl ⟨by rfl, ?_⟩) hHeld ?_ ?_
  rotate_left
  · rintro w' ⟨s0, s1⟩
    go_simp
    with_reducible rfl
  rotate_left
  · simp only [Act.put, v', x', y', i64_w, i32_w]
    rfl
  refine pure_ (i := 9) (N := some 44) (v := ?_) (a' := ?_) #[Y,Y,Z,Y,Y,Y,Z,Y,Y,Y,Z,Z,Z,Z] rfl rfl (any_of HT_.out (by kernel_rfl)) (fun _ _ _ h => h) (Or.inl ⟨by rfl, ?_⟩) ?_ ?_
  rotate_left
  · intro w'
    go_simp
    with_reducible rfl
  rotate_left
  · simp only [Act.put, v', x', y', i64_w, i32_w]
    rfl
  refine join_ (σ := Value × Nat) 1 #[Y,Y,Y,Y,Y,Y,Y,Y,Y,Y,Y,Y,Y,Z] (fun s_ => [(37, .int .i64 t193), (41, .int .i64 t198), (45, s_.1), (7, .pointer (some ⟨s_.2, 0, none⟩)), (46, .agg #[.int .i64 t193, .int .i64 t198, s_.1])]) (fun s_ w' => (w'.cell? ⟨gb192, 0, none⟩ = some (.int .i64 t186) ∧ w'.cell? ⟨gb192, 1, none⟩ = some (.slice Ao31 t187.length co31)) ∧ (Kd.R (Kd.int .u8) 5 w' w.heap.size (fun k_ => some k_ ≠ (s_.1 : Value).ownBlock) (.slice Ao31 t187.length co31) t187) ∧ (Kd.R (Kd.int .u8) 5 w' w.heap.size (fun k_ => some k_ ≠ (.slice Ao31 t187.length co31 : Value).ownBlock) s_.1 t203) ∧ (w'.heap[gb185]? = some (.cells #[.int .i64 0, .int .i64 0, .slice none 0 0] 25 (0, 0))) ∧ (w'.heap[gb192]? = some (.cells #[.int .i64 t186, .slice Ao31 t187.length co31] 80 (0, 0))) ∧ (w'.heap[s_.2]? = some (.cells #[.int .i64 0, .int .i64 0, .slice none 0 0] 25 (0, 0))) ∧ (w.heap.size ≤ s_.2) ∧ (w.heap.size ≤ s_.2) ∧ (gb185 ≠ s_.2) ∧ (s_.2 ≠ gb185) ∧ (gb192 ≠ s_.2) ∧ (s_.2 ≠ gb192) ∧ (Below w.heap.size w w')) ?_ ?_
  rotate_left
  · intro hCont
    refine two_ (i := 2) (j := 12) (Ni := some 37) (Nj := some 7) #[Y,Y,Y,Y,Y,Y,Z,Y,Y,Y,Z,Z,Z,Z] #[Y,Y,Z,Y,Y,Y,Z,Y,Y,Y,Z,Z,Y,Z] rfl rfl rfl rfl (two_of HT_.out (by kernel_rfl)) (by decide) (by decide) (fun K hK => ?_) (fun K hK => ?_)
    · skip
      refine goes_ Try.func45 (by kernel_rfl) rfl #[.slice Ao31 t187.length co31] (by rfl) rfl rfl (by (try simp only [z', aa', ab']); first | done | rfl | (simp only [ac', ad']; rfl)) ?_
      with_reducible refine (snap_number.calls k _ _ t187 t193 _ ?side1 ?side2 A14.out).mono ?_
      (case side1 => repeat (first | exact (Kd.R_reads' HO189.out).2.2 | (with_reducible refine k' ?_ _) | (with_reducible refine j' ?_ _) | (with_reducible refine n' ?_)))
      (case side2 => exact (Kd.R_reads' HO189.out).2.1)
      rintro e w36 ⟨rfl, hb⟩
      refine ⟨_, rfl, ?_⟩
      have n0_ := ae' (Kd.R_below (by (with_reducible repeat (first | apply m' | apply l' | apply o')); exact HO189.out) hb)
      have n1_ := ae' (p' (g := gb185) (o := .cells #[.int .i64 0, .int .i64 0, .slice none 0 0] 25 (0, 0)) (by (with_reducible repeat (first | apply c' | apply e' | apply d')); exact BK185.out) hb)
      have n2_ := ae' (p' (g := gb192) (o := .cells #[.int .i64 t186, .slice Ao31 t187.length co31] 80 (0, 0)) (by (with_reducible repeat (first | apply c' | apply e' | apply d')); exact BK192.out) hb)
      have n3_ := ae' (r' (by repeat (first | (with_reducible exact HR197.out) | (with_reducible refine k' ?_ _) | (with_reducible refine j' ?_ _) | (with_reducible refine n' ?_) | exact HR197.out)) hb)
      have n4_ := ae' (r' (by repeat (first | (with_reducible exact HR202.out) | (with_reducible refine k' ?_ _) | (with_reducible refine j' ?_ _) | (with_reducible refine n' ?_) | exact HR202.out)) hb)
      have n5_ := ae' (s' (by repeat (first | (with_reducible first | exact HB.out | apply h' | apply f' | apply g' | refine b' ?_ GE185.out | refine b' ?_ GE192.out) | exact HB.out)) hb)
      clear HO189
      clear BK185
      clear BK192
      clear HR197
      clear HR202
      clear HB
      have HO189 := n0_
      have BK185 := n1_
      have BK192 := n2_
      have HR197 := n3_
      have HR202 := n4_
      have HB := n5_
      clear n0_ n1_ n2_ n3_ n4_ n5_
      (try clear hb)
      (try clear hb2)
      (try clear hk)
      (try clear hi)
      refine hK.out _ _ ⟨(q' BK192.out 0).trans rfl, (q' BK192.out 1).trans rfl⟩ (fun hHeld => ?_)
      clear hK K
      refine norm_ (a' := ?_) ?_ ?_
      rotate_left
      · show Act.put _ (some 37) _ = _
        simp only [Act.put, v', x', y', i64_w, i32_w]
        rfl
      refine two_ (i := 6) (j := 12) (Ni := some 41) (Nj := some 7) #[Y,Y,Y,Y,Y,Y,Y,Y,Y,Y,Z,Z,Z,Z] #[Y,Y,Y,Y,Y,Y,Z,Y,Y,Y,Z,Z,Y,Z] rfl rfl rfl rfl (two_of HT_.out (by kernel_rfl)) (by decide) (by decide) (fun K hK => ?_) (fun K hK => ?_)
      · skip
        refine goes_ Try.func45 (by kernel_rfl) rfl #[.slice A34 y194.length c34] (by rfl) rfl rfl (by (try simp only [z', aa', ab']); first | done | rfl | (simp only [ac', ad']; rfl)) ?_
        with_reducible refine (snap_number.calls k _ _ y194 t198 _ ?side1 ?side2 A16.out).mono ?_
        (case side1 => repeat (first | exact (by repeat (first | (with_reducible exact HR197.out) | (with_reducible refine k' ?_ _) | (with_reducible refine j' ?_ _) | (with_reducible refine n' ?_) | exact HR197.out)) | (with_reducible refine k' ?_ _) | (with_reducible refine j' ?_ _) | (with_reducible refine n' ?_)))
        (case side2 => exact HC197.out)
        rintro e w37 ⟨rfl, hb⟩
        refine ⟨_, rfl, ?_⟩
        have n0_ := ae' (Kd.R_below (by (with_reducible repeat (first | apply m' | apply l' | apply o')); exact HO189.out) hb)
        have n1_ := ae' (p' (g := gb185) (o := .cells #[.int .i64 0, .int .i64 0, .slice none 0 0] 25 (0, 0)) (by (with_reducible repeat (first | apply c' | apply e' | apply d')); exact BK185.out) hb)
        have n2_ := ae' (p' (g := gb192) (o := .cells #[.int .i64 t186, .slice Ao31 t187.length co31] 80 (0, 0)) (by (with_reducible repeat (first | apply c' | apply e' | apply d')); exact BK192.out) hb)
        have n3_ := ae' (r' (by repeat (first | (with_reducible exact HR197.out) | (with_reducible refine k' ?_ _) | (with_reducible refine j' ?_ _) | (with_reducible refine n' ?_) | exact HR197.out)) hb)
        have n4_ := ae' (r' (by repeat (first | (with_reducible exact HR202.out) | (with_reducible refine k' ?_ _) | (with_reducible refine j' ?_ _) | (with_reducible refine n' ?_) | exact HR202.out)) hb)
        have n5_ := ae' (s' (by repeat (first | (with_reducible first | exact HB.out | apply h' | apply f' | apply g' | refine b' ?_ GE185.out | refine b' ?_ GE192.out) | exact HB.out)) hb)
        clear HO189
        clear BK185
        clear BK192
        clear HR197
        clear HR202
        clear HB
        have HO189 := n0_
        have BK185 := n1_
        have BK192 := n2_
        have HR197 := n3_
        have HR202 := n4_
        have HB := n5_
        clear n0_ n1_ n2_ n3_ n4_ n5_
        (try clear hb)
        (try clear hb2)
        (try clear hk)
        (try clear hi)
        refine hK.out _ _ ⟨(q' BK192.out 0).trans rfl, (q' BK192.out 1).trans rfl⟩ (fun hHeld => ?_)
        clear hK K
        refine norm_ (a' := ?_) ?_ ?_
        rotate_left
        · show Act.put _ (some 41) _ = _
          simp only [Act.put, v', x', y', i64_w, i32_w]
          rfl
        refine two_ (i := 10) (j := 12) (Ni := some 45) (Nj := some 7) #[Y,Y,Y,Y,Y,Y,Y,Y,Y,Y,Y,Z,Z,Z] #[Y,Y,Y,Y,Y,Y,Y,Y,Y,Y,Z,Z,Y,Z] rfl rfl rfl rfl (two_of HT_.out (by kernel_rfl)) (by decide) (by decide) (fun K hK => ?_) (fun K hK => ?_)
        · skip
          refine goes_ Try.func46 (by kernel_rfl) rfl #[.slice A35 y199.length c35] (by rfl) rfl rfl (by (try simp only [z', aa', ab']); first | done | rfl | (simp only [ac', ad']; rfl)) ?_
          with_reducible refine (bytes_Clone.calls _ _ y199 t203 _ ?side1 ?side2 A18.out).mono ?_
          (case side1 => repeat (first | exact (by repeat (first | (with_reducible exact HR202.out) | (with_reducible refine k' ?_ _) | (with_reducible refine j' ?_ _) | (with_reducible refine n' ?_) | exact HR202.out)) | (with_reducible refine k' ?_ _) | (with_reducible refine j' ?_ _) | (with_reducible refine n' ?_)))
          (case side2 => exact HC202.out)
          rintro e w38 ⟨v204, rfl, ho0, hb⟩
          refine ⟨_, rfl, ?_⟩
          have n0_ := ae' (Kd.R_elder' (by (with_reducible repeat (first | apply m' | apply l' | apply o')); exact HO189.out) (Kd.R_base ho0) hb)
          have n1_ := ae' (Kd.R_lower (Kd.R_new' ho0 (Kd.R_lt (by (with_reducible repeat (first | apply m' | apply l' | apply o')); exact HO189.out))) (u' (by repeat (first | (with_reducible first | exact HB.out | apply h' | apply f' | apply g' | refine b' ?_ GE185.out | refine b' ?_ GE192.out) | exact HB.out))))
          have n2_ := ae' (p' (g := gb185) (o := .cells #[.int .i64 0, .int .i64 0, .slice none 0 0] 25 (0, 0)) (by (with_reducible repeat (first | apply c' | apply e' | apply d')); exact BK185.out) hb)
          have n3_ := ae' (p' (g := gb192) (o := .cells #[.int .i64 t186, .slice Ao31 t187.length co31] 80 (0, 0)) (by (with_reducible repeat (first | apply c' | apply e' | apply d')); exact BK192.out) hb)
          have n4_ := ae' (r' (by repeat (first | (with_reducible exact HR197.out) | (with_reducible refine k' ?_ _) | (with_reducible refine j' ?_ _) | (with_reducible refine n' ?_) | exact HR197.out)) hb)
          have n5_ := ae' (r' (by repeat (first | (with_reducible exact HR202.out) | (with_reducible refine k' ?_ _) | (with_reducible refine j' ?_ _) | (with_reducible refine n' ?_) | exact HR202.out)) hb)
          have n6_ := ae' (s' (by repeat (first | (with_reducible first | exact HB.out | apply h' | apply f' | apply g' | refine b' ?_ GE185.out | refine b' ?_ GE192.out) | exact HB.out)) hb)
          clear HO189
          clear BK185
          clear BK192
          clear HR197
          clear HR202
          clear HB
          have HO189 := n0_
          have HO205 := n1_
          have BK185 := n2_
          have BK192 := n3_
          have HR197 := n4_
          have HR202 := n5_
          have HB := n6_
          clear n0_ n1_ n2_ n3_ n4_ n5_ n6_
          (try clear hb)
          (try clear hb2)
          (try clear hk)
          (try clear hi)
          (try clear ho0)
          obtain ⟨Ao39, co39, eo39⟩ := Kd.R_slice HO205.out
          (first | subst eo39 | (injection eo39 with f1_ f2_ f3_; have f4_ := f1_.symm; have f5_ := f3_.symm; clear f1_ f2_ f3_; subst f4_; subst f5_))
          refine hK.out _ _ ⟨(q' BK192.out 0).trans rfl, (q' BK192.out 1).trans rfl⟩ (fun hHeld => ?_)
          clear hK K
          refine norm_ (a' := ?_) ?_ ?_
          rotate_left
          · show Act.put _ (some 45) _ = _
            simp only [Act.put, v', x', y', i64_w, i32_w]
            rfl
          refine pure_ (i := 11) (N := some 46) (v := ?_) (a' := ?_) #[Y,Y,Y,Y,Y,Y,Y,Y,Y,Y,Y,Y,Z,Z] rfl rfl (any_of HT_.out (by kernel_rfl)) (fun _ _ _ h => h) (Or.inl ⟨by rfl, ?_⟩) ?_ ?_
          rotate_left
          · intro w'
            go_simp
            with_reducible rfl
          rotate_left
          · simp only [Act.put, v', x', y', i64_w, i32_w]
            rfl
          refine one_ (i := 12) (N := some 7) #[Y,Y,Y,Y,Y,Y,Y,Y,Y,Y,Y,Y,Y,Z] rfl rfl (one_of HT_.out (by kernel_rfl)) (by decide) (fun K hK => ?_)
          refine box_step ?hg (N := 7) ?hd (cs := #[.int .i64 0, .int .i64 0, .slice none 0 0]) (t := 25) ?hr ?_; (case hd => rfl); (case hg => rfl); (case hr => first | (go_simp; done) | (go_simp; rfl))
          intro gb206 hg w40 hbox hb
          have n0_ := ae' (Kd.R_below (by (with_reducible repeat (first | apply m' | apply l' | apply o')); exact HO189.out) hb)
          have n1_ := ae' (Kd.R_below (by (with_reducible repeat (first | apply m' | apply l' | apply o')); exact HO205.out) hb)
          have n2_ := ae' (p' (g := gb185) (o := .cells #[.int .i64 0, .int .i64 0, .slice none 0 0] 25 (0, 0)) (by (with_reducible repeat (first | apply c' | apply e' | apply d')); exact BK185.out) hb)
          have n3_ := ae' (p' (g := gb192) (o := .cells #[.int .i64 t186, .slice Ao31 t187.length co31] 80 (0, 0)) (by (with_reducible repeat (first | apply c' | apply e' | apply d')); exact BK192.out) hb)
          have n4_ := ae' (r' (by repeat (first | (with_reducible exact HR197.out) | (with_reducible refine k' ?_ _) | (with_reducible refine j' ?_ _) | (with_reducible refine n' ?_) | exact HR197.out)) hb)
          have n5_ := ae' (r' (by repeat (first | (with_reducible exact HR202.out) | (with_reducible refine k' ?_ _) | (with_reducible refine j' ?_ _) | (with_reducible refine n' ?_) | exact HR202.out)) hb)
          have n6_ := ae' (s' (by repeat (first | (with_reducible first | exact HB.out | apply h' | apply f' | apply g' | refine b' ?_ GE185.out | refine b' ?_ GE192.out) | exact HB.out)) hb)
          have n7_ := ae' (hbox)
          have n8_ := ae' ((by rw [hg]; exact (u' (by repeat (first | (with_reducible first | exact HB.out | apply h' | apply f' | apply g' | refine b' ?_ GE185.out | refine b' ?_ GE192.out) | exact HB.out))) : w.heap.size ≤ gb206))
          have n9_ := ae' ((by rw [hg]; exact (u' (by repeat (first | (with_reducible first | exact HB.out | apply h' | apply f' | apply g' | refine b' ?_ GE185.out | refine b' ?_ GE192.out) | exact HB.out))) : w.heap.size ≤ gb206))
          have n10_ := ae' ((by rw [hg]; exact Nat.ne_of_lt (blk_lt (g := gb185) (o := .cells #[.int .i64 0, .int .i64 0, .slice none 0 0] 25 (0, 0)) (by (with_reducible repeat (first | apply c' | apply e' | apply d')); exact BK185.out)) : gb185 ≠ gb206))
          have n11_ := ae' ((by rw [hg]; exact Nat.ne_of_gt (blk_lt (g := gb185) (o := .cells #[.int .i64 0, .int .i64 0, .slice none 0 0] 25 (0, 0)) (by (with_reducible repeat (first | apply c' | apply e' | apply d')); exact BK185.out)) : gb206 ≠ gb185))
          have n12_ := ae' ((by rw [hg]; exact Nat.ne_of_lt (blk_lt (g := gb192) (o := .cells #[.int .i64 t186, .slice Ao31 t187.length co31] 80 (0, 0)) (by (with_reducible repeat (first | apply c' | apply e' | apply d')); exact BK192.out)) : gb192 ≠ gb206))
          have n13_ := ae' ((by rw [hg]; exact Nat.ne_of_gt (blk_lt (g := gb192) (o := .cells #[.int .i64 t186, .slice Ao31 t187.length co31] 80 (0, 0)) (by (with_reducible repeat (first | apply c' | apply e' | apply d')); exact BK192.out)) : gb206 ≠ gb192))
          clear HO189
          clear HO205
          clear BK185
          clear BK192
          clear HR197
          clear HR202
          clear HB
          have HO189 := n0_
          have HO205 := n1_
          have BK185 := n2_
          have BK192 := n3_
          have HR197 := n4_
          have HR202 := n5_
          have HB := n6_
          have BK206 := n7_
          have GW206 := n8_
          have GE206 := n9_
          have NB185_206 := n10_
          have NB206_185 := n11_
          have NB192_206 := n12_
          have NB206_192 := n13_
          clear n0_ n1_ n2_ n3_ n4_ n5_ n6_ n7_ n8_ n9_ n10_ n11_ n12_ n13_
          clear hb hbox hg
          refine hK.out _ _ ⟨(q' BK192.out 0).trans rfl, (q' BK192.out 1).trans rfl⟩ (fun hHeld => ?_)
          clear hK K
          refine norm_ (a' := ?_) ?_ ?_
          rotate_left
          · show Act.put _ (some 7) _ = _
            simp only [Act.put, v', x', y', i64_w, i32_w]
            rfl
          exact norm_ (by simp only [putAll, Act.put, v', x', y']) (hCont (.slice Ao39 t203.length co39, gb206) _ ⟨hHeld, (by (with_reducible repeat (first | apply m' | apply l' | apply o')); exact Kd.R_mono HO189.out (fun _ hk => hk.2)), (by (with_reducible repeat (first | apply m' | apply l' | apply o')); exact Kd.R_mono HO205.out (fun _ hk => hk.2)), (by (with_reducible repeat (first | apply c' | apply e' | apply d')); exact BK185.out), (by (with_reducible repeat (first | apply c' | apply e' | apply d')); exact BK192.out), (by (with_reducible repeat (first | apply c' | apply e' | apply d')); exact BK206.out), GW206.out, GE206.out, NB185_206.out, NB206_185.out, NB192_206.out, NB206_192.out, (by repeat (first | (with_reducible first | exact HB.out | apply h' | apply f' | apply g' | refine b' ?_ GE185.out | refine b' ?_ GE192.out | refine b' ?_ GE206.out) | exact HB.out))⟩)
        · skip
          refine box_step ?hg (N := 7) ?hd (cs := #[.int .i64 0, .int .i64 0, .slice none 0 0]) (t := 25) ?hr ?_; (case hd => rfl); (case hg => rfl); (case hr => first | (go_simp; done) | (go_simp; rfl))
          intro gb206 hg w38 hbox hb
          have n0_ := ae' (Kd.R_below (by (with_reducible repeat (first | apply m' | apply l' | apply o')); exact HO189.out) hb)
          have n1_ := ae' (p' (g := gb185) (o := .cells #[.int .i64 0, .int .i64 0, .slice none 0 0] 25 (0, 0)) (by (with_reducible repeat (first | apply c' | apply e' | apply d')); exact BK185.out) hb)
          have n2_ := ae' (p' (g := gb192) (o := .cells #[.int .i64 t186, .slice Ao31 t187.length co31] 80 (0, 0)) (by (with_reducible repeat (first | apply c' | apply e' | apply d')); exact BK192.out) hb)
          have n3_ := ae' (r' (by repeat (first | (with_reducible exact HR197.out) | (with_reducible refine k' ?_ _) | (with_reducible refine j' ?_ _) | (with_reducible refine n' ?_) | exact HR197.out)) hb)
          have n4_ := ae' (r' (by repeat (first | (with_reducible exact HR202.out) | (with_reducible refine k' ?_ _) | (with_reducible refine j' ?_ _) | (with_reducible refine n' ?_) | exact HR202.out)) hb)
          have n5_ := ae' (s' (by repeat (first | (with_reducible first | exact HB.out | apply h' | apply f' | apply g' | refine b' ?_ GE185.out | refine b' ?_ GE192.out) | exact HB.out)) hb)
          have n6_ := ae' (hbox)
          have n7_ := ae' ((by rw [hg]; exact (u' (by repeat (first | (with_reducible first | exact HB.out | apply h' | apply f' | apply g' | refine b' ?_ GE185.out | refine b' ?_ GE192.out) | exact HB.out))) : w.heap.size ≤ gb206))
          have n8_ := ae' ((by rw [hg]; exact (u' (by repeat (first | (with_reducible first | exact HB.out | apply h' | apply f' | apply g' | refine b' ?_ GE185.out | refine b' ?_ GE192.out) | exact HB.out))) : w.heap.size ≤ gb206))
          have n9_ := ae' ((by rw [hg]; exact Nat.ne_of_lt (blk_lt (g := gb185) (o := .cells #[.int .i64 0, .int .i64 0, .slice none 0 0] 25 (0, 0)) (by (with_reducible repeat (first | apply c' | apply e' | apply d')); exact BK185.out)) : gb185 ≠ gb206))
          have n10_ := ae' ((by rw [hg]; exact Nat.ne_of_gt (blk_lt (g := gb185) (o := .cells #[.int .i64 0, .int .i64 0, .slice none 0 0] 25 (0, 0)) (by (with_reducible repeat (first | apply c' | apply e' | apply d')); exact BK185.out)) : gb206 ≠ gb185))
          have n11_ := ae' ((by rw [hg]; exact Nat.ne_of_lt (blk_lt (g := gb192) (o := .cells #[.int .i64 t186, .slice Ao31 t187.length co31] 80 (0, 0)) (by (with_reducible repeat (first | apply c' | apply e' | apply d')); exact BK192.out)) : gb192 ≠ gb206))
          have n12_ := ae' ((by rw [hg]; exact Nat.ne_of_gt (blk_lt (g := gb192) (o := .cells #[.int .i64 t186, .slice Ao31 t187.length co31] 80 (0, 0)) (by (with_reducible repeat (first | apply c' | apply e' | apply d')); exact BK192.out)) : gb206 ≠ gb192))
          clear HO189
          clear BK185
          clear BK192
          clear HR197
          clear HR202
          clear HB
          have HO189 := n0_
          have BK185 := n1_
          have BK192 := n2_
          have HR197 := n3_
          have HR202 := n4_
          have HB := n5_
          have BK206 := n6_
          have GW206 := n7_
          have GE206 := n8_
          have NB185_206 := n9_
          have NB206_185 := n10_
          have NB192_206 := n11_
          have NB206_192 := n12_
          clear n0_ n1_ n2_ n3_ n4_ n5_ n6_ n7_ n8_ n9_ n10_ n11_ n12_
          clear hb hbox hg
          refine hK.out _ _ ⟨(q' BK192.out 0).trans rfl, (q' BK192.out 1).trans rfl⟩ (fun hHeld => ?_)
          clear hK K
          refine norm_ (a' := ?_) ?_ ?_
          rotate_left
          · show Act.put _ (some 7) _ = _
            simp only [Act.put, v', x', y', i64_w, i32_w]
            rfl
          refine one_ (i := 10) (N := some 45) #[Y,Y,Y,Y,Y,Y,Y,Y,Y,Y,Y,Z,Y,Z] rfl rfl (one_of HT_.out (by kernel_rfl)) (by decide) (fun K hK => ?_)
          refine goes_ Try.func46 (by kernel_rfl) rfl #[.slice A35 y199.length c35] (by rfl) rfl rfl (by (try simp only [z', aa', ab']); first | done | rfl | (simp only [ac', ad']; rfl)) ?_
          with_reducible refine (bytes_Clone.calls _ _ y199 t203 _ ?side1 ?side2 A18.out).mono ?_
          (case side1 => repeat (first | exact (by repeat (first | (with_reducible exact HR202.out) | (with_reducible refine k' ?_ _) | (with_reducible refine j' ?_ _) | (with_reducible refine n' ?_) | exact HR202.out)) | (with_reducible refine k' ?_ _) | (with_reducible refine j' ?_ _) | (with_reducible refine n' ?_)))
          (case side2 => exact HC202.out)
          rintro e w39 ⟨v204, rfl, ho0, hb⟩
          refine ⟨_, rfl, ?_⟩
          have n0_ := ae' (Kd.R_elder' (by (with_reducible repeat (first | apply m' | apply l' | apply o')); exact HO189.out) (Kd.R_base ho0) hb)
          have n1_ := ae' (Kd.R_lower (Kd.R_new' ho0 (Kd.R_lt (by (with_reducible repeat (first | apply m' | apply l' | apply o')); exact HO189.out))) (u' (by repeat (first | (with_reducible first | exact HB.out | apply h' | apply f' | apply g' | refine b' ?_ GE185.out | refine b' ?_ GE192.out | refine b' ?_ GE206.out) | exact HB.out))))
          have n2_ := ae' (p' (g := gb185) (o := .cells #[.int .i64 0, .int .i64 0, .slice none 0 0] 25 (0, 0)) (by (with_reducible repeat (first | apply c' | apply e' | apply d')); exact BK185.out) hb)
          have n3_ := ae' (p' (g := gb192) (o := .cells #[.int .i64 t186, .slice Ao31 t187.length co31] 80 (0, 0)) (by (with_reducible repeat (first | apply c' | apply e' | apply d')); exact BK192.out) hb)
          have n4_ := ae' (r' (by repeat (first | (with_reducible exact HR197.out) | (with_reducible refine k' ?_ _) | (with_reducible refine j' ?_ _) | (with_reducible refine n' ?_) | exact HR197.out)) hb)
          have n5_ := ae' (r' (by repeat (first | (with_reducible exact HR202.out) | (with_reducible refine k' ?_ _) | (with_reducible refine j' ?_ _) | (with_reducible refine n' ?_) | exact HR202.out)) hb)
          have n6_ := ae' (p' (g := gb206) (o := .cells #[.int .i64 0, .int .i64 0, .slice none 0 0] 25 (0, 0)) (by (with_reducible repeat (first | apply c' | apply e' | apply d')); exact BK206.out) hb)
          have n7_ := ae' (s' (by repeat (first | (with_reducible first | exact HB.out | apply h' | apply f' | apply g' | refine b' ?_ GE185.out | refine b' ?_ GE192.out | refine b' ?_ GE206.out) | exact HB.out)) hb)
          clear HO189
          clear BK185
          clear BK192
          clear HR197
          clear HR202
          clear BK206
          clear HB
          have HO189 := n0_
          have HO205 := n1_
          have BK185 := n2_
          have BK192 := n3_
          have HR197 := n4_
          have HR202 := n5_
          have BK206 := n6_
          have HB := n7_
          clear n0_ n1_ n2_ n3_ n4_ n5_ n6_ n7_
          (try clear hb)
          (try clear hb2)
          (try clear hk)
          (try clear hi)
          (try clear ho0)
          obtain ⟨Ao40, co40, eo40⟩ := Kd.R_slice HO205.out
          (first | subst eo40 | (injection eo40 with f1_ f2_ f3_; have f4_ := f1_.symm; have f5_ := f3_.symm; clear f1_ f2_ f3_; subst f4_; subst f5_))
          refine hK.out _ _ ⟨(q' BK192.out 0).trans rfl, (q' BK192.out 1).trans rfl⟩ (fun hHeld => ?_)
          clear hK K
          refine norm_ (a' := ?_) ?_ ?_
          rotate_left
          · show Act.put _ (some 45) _ = _
            simp only [Act.put, v', x', y', i64_w, i32_w]
            rfl
          refine pure_ (i := 11) (N := some 46) (v := ?_) (a' := ?_) #[Y,Y,Y,Y,Y,Y,Y,Y,Y,Y,Y,Y,Y,Z] rfl rfl (any_of HT_.out (by kernel_rfl)) (fun _ _ _ h => h) (Or.inl ⟨by rfl, ?_⟩) ?_ ?_
          rotate_left
          · intro w'
            go_simp
            with_reducible rfl
          rotate_left
          · simp only [Act.put, v', x', y', i64_w, i32_w]
            rfl
          exact norm_ (by simp only [putAll, Act.put, v', x', y']) (hCont (.slice Ao40 t203.length co40, gb206) _ ⟨hHeld, (by (with_reducible repeat (first | apply m' | apply l' | apply o')); exact Kd.R_mono HO189.out (fun _ hk => hk.2)), (by (with_reducible repeat (first | apply m' | apply l' | apply o')); exact Kd.R_mono HO205.out (fun _ hk => hk.2)), (by (with_reducible repeat (first | apply c' | apply e' | apply d')); exact BK185.out), (by (with_reducible repeat (first | apply c' | apply e' | apply d')); exact BK192.out), (by (with_reducible repeat (first | apply c' | apply e' | apply d')); exact BK206.out), GW206.out, GE206.out, NB185_206.out, NB206_185.out, NB192_206.out, NB206_192.out, (by repeat (first | (with_reducible first | exact HB.out | apply h' | apply f' | apply g' | refine b' ?_ GE185.out | refine b' ?_ GE192.out | refine b' ?_ GE206.out) | exact HB.out))⟩)
      · skip
        refine box_step ?hg (N := 7) ?hd (cs := #[.int .i64 0, .int .i64 0, .slice none 0 0]) (t := 25) ?hr ?_; (case hd => rfl); (case hg => rfl); (case hr => first | (go_simp; done) | (go_simp; rfl))
        intro gb206 hg w37 hbox hb
        have n0_ := ae' (Kd.R_below (by (with_reducible repeat (first | apply m' | apply l' | apply o')); exact HO189.out) hb)
        have n1_ := ae' (p' (g := gb185) (o := .cells #[.int .i64 0, .int .i64 0, .slice none 0 0] 25 (0, 0)) (by (with_reducible repeat (first | apply c' | apply e' | apply d')); exact BK185.out) hb)
        have n2_ := ae' (p' (g := gb192) (o := .cells #[.int .i64 t186, .slice Ao31 t187.length co31] 80 (0, 0)) (by (with_reducible repeat (first | apply c' | apply e' | apply d')); exact BK192.out) hb)
        have n3_ := ae' (r' (by repeat (first | (with_reducible exact HR197.out) | (with_reducible refine k' ?_ _) | (with_reducible refine j' ?_ _) | (with_reducible refine n' ?_) | exact HR197.out)) hb)
        have n4_ := ae' (r' (by repeat (first | (with_reducible exact HR202.out) | (with_reducible refine k' ?_ _) | (with_reducible refine j' ?_ _) | (with_reducible refine n' ?_) | exact HR202.out)) hb)
        have n5_ := ae' (s' (by repeat (first | (with_reducible first | exact HB.out | apply h' | apply f' | apply g' | refine b' ?_ GE185.out | refine b' ?_ GE192.out) | exact HB.out)) hb)
        have n6_ := ae' (hbox)
        have n7_ := ae' ((by rw [hg]; exact (u' (by repeat (first | (with_reducible first | exact HB.out | apply h' | apply f' | apply g' | refine b' ?_ GE185.out | refine b' ?_ GE192.out) | exact HB.out))) : w.heap.size ≤ gb206))
        have n8_ := ae' ((by rw [hg]; exact (u' (by repeat (first | (with_reducible first | exact HB.out | apply h' | apply f' | apply g' | refine b' ?_ GE185.out | refine b' ?_ GE192.out) | exact HB.out))) : w.heap.size ≤ gb206))
        have n9_ := ae' ((by rw [hg]; exact Nat.ne_of_lt (blk_lt (g := gb185) (o := .cells #[.int .i64 0, .int .i64 0, .slice none 0 0] 25 (0, 0)) (by (with_reducible repeat (first | apply c' | apply e' | apply d')); exact BK185.out)) : gb185 ≠ gb206))
        have n10_ := ae' ((by rw [hg]; exact Nat.ne_of_gt (blk_lt (g := gb185) (o := .cells #[.int .i64 0, .int .i64 0, .slice none 0 0] 25 (0, 0)) (by (with_reducible repeat (first | apply c' | apply e' | apply d')); exact BK185.out)) : gb206 ≠ gb185))
        have n11_ := ae' ((by rw [hg]; exact Nat.ne_of_lt (blk_lt (g := gb192) (o := .cells #[.int .i64 t186, .slice Ao31 t187.length co31] 80 (0, 0)) (by (with_reducible repeat (first | apply c' | apply e' | apply d')); exact BK192.out)) : gb192 ≠ gb206))
        have n12_ := ae' ((by rw [hg]; exact Nat.ne_of_gt (blk_lt (g := gb192) (o := .cells #[.int .i64 t186, .slice Ao31 t187.length co31] 80 (0, 0)) (by (with_reducible repeat (first | apply c' | apply e' | apply d')); exact BK192.out)) : gb206 ≠ gb192))
        clear HO189
        clear BK185
        clear BK192
        clear HR197
        clear HR202
        clear HB
        have HO189 := n0_
        have BK185 := n1_
        have BK192 := n2_
        have HR197 := n3_
        have HR202 := n4_
        have HB := n5_
        have BK206 := n6_
        have GW206 := n7_
        have GE206 := n8_
        have NB185_206 := n9_
        have NB206_185 := n10_
        have NB192_206 := n11_
        have NB206_192 := n12_
        clear n0_ n1_ n2_ n3_ n4_ n5_ n6_ n7_ n8_ n9_ n10_ n11_ n12_
        clear hb hbox hg
        refine hK.out _ _ ⟨(q' BK192.out 0).trans rfl, (q' BK192.out 1).trans rfl⟩ (fun hHeld => ?_)
        clear hK K
        refine norm_ (a' := ?_) ?_ ?_
        rotate_left
        · show Act.put _ (some 7) _ = _
          simp only [Act.put, v', x', y', i64_w, i32_w]
          rfl
        refine one_ (i := 6) (N := some 41) #[Y,Y,Y,Y,Y,Y,Y,Y,Y,Y,Z,Z,Y,Z] rfl rfl (one_of HT_.out (by kernel_rfl)) (by decide) (fun K hK => ?_)
        refine goes_ Try.func45 (by kernel_rfl) rfl #[.slice A34 y194.length c34] (by rfl) rfl rfl (by (try simp only [z', aa', ab']); first | done | rfl | (simp only [ac', ad']; rfl)) ?_
        with_reducible refine (snap_number.calls k _ _ y194 t198 _ ?side1 ?side2 A16.out).mono ?_
        (case side1 => repeat (first | exact (by repeat (first | (with_reducible exact HR197.out) | (with_reducible refine k' ?_ _) | (with_reducible refine j' ?_ _) | (with_reducible refine n' ?_) | exact HR197.out)) | (with_reducible refine k' ?_ _) | (with_reducible refine j' ?_ _) | (with_reducible refine n' ?_)))
        (case side2 => exact HC197.out)
        rintro e w38 ⟨rfl, hb⟩
        refine ⟨_, rfl, ?_⟩
        have n0_ := ae' (Kd.R_below (by (with_reducible repeat (first | apply m' | apply l' | apply o')); exact HO189.out) hb)
        have n1_ := ae' (p' (g := gb185) (o := .cells #[.int .i64 0, .int .i64 0, .slice none 0 0] 25 (0, 0)) (by (with_reducible repeat (first | apply c' | apply e' | apply d')); exact BK185.out) hb)
        have n2_ := ae' (p' (g := gb192) (o := .cells #[.int .i64 t186, .slice Ao31 t187.length co31] 80 (0, 0)) (by (with_reducible repeat (first | apply c' | apply e' | apply d')); exact BK192.out) hb)
        have n3_ := ae' (r' (by repeat (first | (with_reducible exact HR197.out) | (with_reducible refine k' ?_ _) | (with_reducible refine j' ?_ _) | (with_reducible refine n' ?_) | exact HR197.out)) hb)
        have n4_ := ae' (r' (by repeat (first | (with_reducible exact HR202.out) | (with_reducible refine k' ?_ _) | (with_reducible refine j' ?_ _) | (with_reducible refine n' ?_) | exact HR202.out)) hb)
        have n5_ := ae' (p' (g := gb206) (o := .cells #[.int .i64 0, .int .i64 0, .slice none 0 0] 25 (0, 0)) (by (with_reducible repeat (first | apply c' | apply e' | apply d')); exact BK206.out) hb)
        have n6_ := ae' (s' (by repeat (first | (with_reducible first | exact HB.out | apply h' | apply f' | apply g' | refine b' ?_ GE185.out | refine b' ?_ GE192.out | refine b' ?_ GE206.out) | exact HB.out)) hb)
        clear HO189
        clear BK185
        clear BK192
        clear HR197
        clear HR202
        clear BK206
        clear HB
        have HO189 := n0_
        have BK185 := n1_
        have BK192 := n2_
        have HR197 := n3_
        have HR202 := n4_
        have BK206 := n5_
        have HB := n6_
        clear n0_ n1_ n2_ n3_ n4_ n5_ n6_
        (try clear hb)
        (try clear hb2)
        (try clear hk)
        (try clear hi)
        refine hK.out _ _ ⟨(q' BK192.out 0).trans rfl, (q' BK192.out 1).trans rfl⟩ (fun hHeld => ?_)
        clear hK K
        refine norm_ (a' := ?_) ?_ ?_
        rotate_left
        · show Act.put _ (some 41) _ = _
          simp only [Act.put, v', x', y', i64_w, i32_w]
          rfl
        refine one_ (i := 10) (N := some 45) #[Y,Y,Y,Y,Y,Y,Y,Y,Y,Y,Y,Z,Y,Z] rfl rfl (one_of HT_.out (by kernel_rfl)) (by decide) (fun K hK => ?_)
        refine goes_ Try.func46 (by kernel_rfl) rfl #[.slice A35 y199.length c35] (by rfl) rfl rfl (by (try simp only [z', aa', ab']); first | done | rfl | (simp only [ac', ad']; rfl)) ?_
        with_reducible refine (bytes_Clone.calls _ _ y199 t203 _ ?side1 ?side2 A18.out).mono ?_
        (case side1 => repeat (first | exact (by repeat (first | (with_reducible exact HR202.out) | (with_reducible refine k' ?_ _) | (with_reducible refine j' ?_ _) | (with_reducible refine n' ?_) | exact HR202.out)) | (with_reducible refine k' ?_ _) | (with_reducible refine j' ?_ _) | (with_reducible refine n' ?_)))
        (case side2 => exact HC202.out)
        rintro e w39 ⟨v204, rfl, ho0, hb⟩
        refine ⟨_, rfl, ?_⟩
        have n0_ := ae' (Kd.R_elder' (by (with_reducible repeat (first | apply m' | apply l' | apply o')); exact HO189.out) (Kd.R_base ho0) hb)
        have n1_ := ae' (Kd.R_lower (Kd.R_new' ho0 (Kd.R_lt (by (with_reducible repeat (first | apply m' | apply l' | apply o')); exact HO189.out))) (u' (by repeat (first | (with_reducible first | exact HB.out | apply h' | apply f' | apply g' | refine b' ?_ GE185.out | refine b' ?_ GE192.out | refine b' ?_ GE206.out) | exact HB.out))))
        have n2_ := ae' (p' (g := gb185) (o := .cells #[.int .i64 0, .int .i64 0, .slice none 0 0] 25 (0, 0)) (by (with_reducible repeat (first | apply c' | apply e' | apply d')); exact BK185.out) hb)
        have n3_ := ae' (p' (g := gb192) (o := .cells #[.int .i64 t186, .slice Ao31 t187.length co31] 80 (0, 0)) (by (with_reducible repeat (first | apply c' | apply e' | apply d')); exact BK192.out) hb)
        have n4_ := ae' (r' (by repeat (first | (with_reducible exact HR197.out) | (with_reducible refine k' ?_ _) | (with_reducible refine j' ?_ _) | (with_reducible refine n' ?_) | exact HR197.out)) hb)
        have n5_ := ae' (r' (by repeat (first | (with_reducible exact HR202.out) | (with_reducible refine k' ?_ _) | (with_reducible refine j' ?_ _) | (with_reducible refine n' ?_) | exact HR202.out)) hb)
        have n6_ := ae' (p' (g := gb206) (o := .cells #[.int .i64 0, .int .i64 0, .slice none 0 0] 25 (0, 0)) (by (with_reducible repeat (first | apply c' | apply e' | apply d')); exact BK206.out) hb)
        have n7_ := ae' (s' (by repeat (first | (with_reducible first | exact HB.out | apply h' | apply f' | apply g' | refine b' ?_ GE185.out | refine b' ?_ GE192.out | refine b' ?_ GE206.out) | exact HB.out)) hb)
        clear HO189
        clear BK185
        clear BK192
        clear HR197
        clear HR202
        clear BK206
        clear HB
        have HO189 := n0_
        have HO205 := n1_
        have BK185 := n2_
        have BK192 := n3_
        have HR197 := n4_
        have HR202 := n5_
        have BK206 := n6_
        have HB := n7_
        clear n0_ n1_ n2_ n3_ n4_ n5_ n6_ n7_
        (try clear hb)
        (try clear hb2)
        (try clear hk)
        (try clear hi)
        (try clear ho0)
        obtain ⟨Ao40, co40, eo40⟩ := Kd.R_slice HO205.out
        (first | subst eo40 | (injection eo40 with f1_ f2_ f3_; have f4_ := f1_.symm; have f5_ := f3_.symm; clear f1_ f2_ f3_; subst f4_; subst f5_))
        refine hK.out _ _ ⟨(q' BK192.out 0).trans rfl, (q' BK192.out 1).trans rfl⟩ (fun hHeld => ?_)
        clear hK K
        refine norm_ (a' := ?_) ?_ ?_
        rotate_left
        · show Act.put _ (some 45) _ = _
          simp only [Act.put, v', x', y', i64_w, i32_w]
          rfl
        refine pure_ (i := 11) (N := some 46) (v := ?_) (a' := ?_) #[Y,Y,Y,Y,Y,Y,Y,Y,Y,Y,Y,Y,Y,Z] rfl rfl (any_of HT_.out (by kernel_rfl)) (fun _ _ _ h => h) (Or.inl ⟨by rfl, ?_⟩) ?_ ?_
        rotate_left
        · intro w'
          go_simp
          with_reducible rfl
        rotate_left
        · simp only [Act.put, v', x', y', i64_w, i32_w]
          rfl
        exact norm_ (by simp only [putAll, Act.put, v', x', y']) (hCont (.slice Ao40 t203.length co40, gb206) _ ⟨hHeld, (by (with_reducible repeat (first | apply m' | apply l' | apply o')); exact Kd.R_mono HO189.out (fun _ hk => hk.2)), (by (with_reducible repeat (first | apply m' | apply l' | apply o')); exact Kd.R_mono HO205.out (fun _ hk => hk.2)), (by (with_reducible repeat (first | apply c' | apply e' | apply d')); exact BK185.out), (by (with_reducible repeat (first | apply c' | apply e' | apply d')); exact BK192.out), (by (with_reducible repeat (first | apply c' | apply e' | apply d')); exact BK206.out), GW206.out, GE206.out, NB185_206.out, NB206_185.out, NB192_206.out, NB206_192.out, (by repeat (first | (with_reducible first | exact HB.out | apply h' | apply f' | apply g' | refine b' ?_ GE185.out | refine b' ?_ GE192.out | refine b' ?_ GE206.out) | exact HB.out))⟩)
    · skip
      refine box_step ?hg (N := 7) ?hd (cs := #[.int .i64 0, .int .i64 0, .slice none 0 0]) (t := 25) ?hr ?_; (case hd => rfl); (case hg => rfl); (case hr => first | (go_simp; done) | (go_simp; rfl))
      intro gb206 hg w36 hbox hb
      have n0_ := ae' (Kd.R_below (by (with_reducible repeat (first | apply m' | apply l' | apply o')); exact HO189.out) hb)
      have n1_ := ae' (p' (g := gb185) (o := .cells #[.int .i64 0, .int .i64 0, .slice none 0 0] 25 (0, 0)) (by (with_reducible repeat (first | apply c' | apply e' | apply d')); exact BK185.out) hb)
      have n2_ := ae' (p' (g := gb192) (o := .cells #[.int .i64 t186, .slice Ao31 t187.length co31] 80 (0, 0)) (by (with_reducible repeat (first | apply c' | apply e' | apply d')); exact BK192.out) hb)
      have n3_ := ae' (r' (by repeat (first | (with_reducible exact HR197.out) | (with_reducible refine k' ?_ _) | (with_reducible refine j' ?_ _) | (with_reducible refine n' ?_) | exact HR197.out)) hb)
      have n4_ := ae' (r' (by repeat (first | (with_reducible exact HR202.out) | (with_reducible refine k' ?_ _) | (with_reducible refine j' ?_ _) | (with_reducible refine n' ?_) | exact HR202.out)) hb)
      have n5_ := ae' (s' (by repeat (first | (with_reducible first | exact HB.out | apply h' | apply f' | apply g' | refine b' ?_ GE185.out | refine b' ?_ GE192.out) | exact HB.out)) hb)
      have n6_ := ae' (hbox)
      have n7_ := ae' ((by rw [hg]; exact (u' (by repeat (first | (with_reducible first | exact HB.out | apply h' | apply f' | apply g' | refine b' ?_ GE185.out | refine b' ?_ GE192.out) | exact HB.out))) : w.heap.size ≤ gb206))
      have n8_ := ae' ((by rw [hg]; exact (u' (by repeat (first | (with_reducible first | exact HB.out | apply h' | apply f' | apply g' | refine b' ?_ GE185.out | refine b' ?_ GE192.out) | exact HB.out))) : w.heap.size ≤ gb206))
      have n9_ := ae' ((by rw [hg]; exact Nat.ne_of_lt (blk_lt (g := gb185) (o := .cells #[.int .i64 0, .int .i64 0, .slice none 0 0] 25 (0, 0)) (by (with_reducible repeat (first | apply c' | apply e' | apply d')); exact BK185.out)) : gb185 ≠ gb206))
      have n10_ := ae' ((by rw [hg]; exact Nat.ne_of_gt (blk_lt (g := gb185) (o := .cells #[.int .i64 0, .int .i64 0, .slice none 0 0] 25 (0, 0)) (by (with_reducible repeat (first | apply c' | apply e' | apply d')); exact BK185.out)) : gb206 ≠ gb185))
      have n11_ := ae' ((by rw [hg]; exact Nat.ne_of_lt (blk_lt (g := gb192) (o := .cells #[.int .i64 t186, .slice Ao31 t187.length co31] 80 (0, 0)) (by (with_reducible repeat (first | apply c' | apply e' | apply d')); exact BK192.out)) : gb192 ≠ gb206))
      have n12_ := ae' ((by rw [hg]; exact Nat.ne_of_gt (blk_lt (g := gb192) (o := .cells #[.int .i64 t186, .slice Ao31 t187.length co31] 80 (0, 0)) (by (with_reducible repeat (first | apply c' | apply e' | apply d')); exact BK192.out)) : gb206 ≠ gb192))
      clear HO189
      clear BK185
      clear BK192
      clear HR197
      clear HR202
      clear HB
      have HO189 := n0_
      have BK185 := n1_
      have BK192 := n2_
      have HR197 := n3_
      have HR202 := n4_
      have HB := n5_
      have BK206 := n6_
      have GW206 := n7_
      have GE206 := n8_
      have NB185_206 := n9_
      have NB206_185 := n10_
      have NB192_206 := n11_
      have NB206_192 := n12_
      clear n0_ n1_ n2_ n3_ n4_ n5_ n6_ n7_ n8_ n9_ n10_ n11_ n12_
      clear hb hbox hg
      refine hK.out _ _ ⟨(q' BK192.out 0).trans rfl, (q' BK192.out 1).trans rfl⟩ (fun hHeld => ?_)
      clear hK K
      refine norm_ (a' := ?_) ?_ ?_
      rotate_left
      · show Act.put _ (some 7) _ = _
        simp only [Act.put, v', x', y', i64_w, i32_w]
        rfl
      refine one_ (i := 2) (N := some 37) #[Y,Y,Y,Y,Y,Y,Z,Y,Y,Y,Z,Z,Y,Z] rfl rfl (one_of HT_.out (by kernel_rfl)) (by decide) (fun K hK => ?_)
      refine goes_ Try.func45 (by kernel_rfl) rfl #[.slice Ao31 t187.length co31] (by rfl) rfl rfl (by (try simp only [z', aa', ab']); first | done | rfl | (simp only [ac', ad']; rfl)) ?_
      with_reducible refine (snap_number.calls k _ _ t187 t193 _ ?side1 ?side2 A14.out).mono ?_
      (case side1 => repeat (first | exact (Kd.R_reads' HO189.out).2.2 | (with_reducible refine k' ?_ _) | (with_reducible refine j' ?_ _) | (with_reducible refine n' ?_)))
      (case side2 => exact (Kd.R_reads' HO189.out).2.1)
      rintro e w37 ⟨rfl, hb⟩
      refine ⟨_, rfl, ?_⟩
      have n0_ := ae' (Kd.R_below (by (with_reducible repeat (first | apply m' | apply l' | apply o')); exact HO189.out) hb)
      have n1_ := ae' (p' (g := gb185) (o := .cells #[.int .i64 0, .int .i64 0, .slice none 0 0] 25 (0, 0)) (by (with_reducible repeat (first | apply c' | apply e' | apply d')); exact BK185.out) hb)
      have n2_ := ae' (p' (g := gb192) (o := .cells #[.int .i64 t186, .slice Ao31 t187.length co31] 80 (0, 0)) (by (with_reducible repeat (first | apply c' | apply e' | apply d')); exact BK192.out) hb)
      have n3_ := ae' (r' (by repeat (first | (with_reducible exact HR197.out) | (with_reducible refine k' ?_ _) | (with_reducible refine j' ?_ _) | (with_reducible refine n' ?_) | exact HR197.out)) hb)
      have n4_ := ae' (r' (by repeat (first | (with_reducible exact HR202.out) | (with_reducible refine k' ?_ _) | (with_reducible refine j' ?_ _) | (with_reducible refine n' ?_) | exact HR202.out)) hb)
      have n5_ := ae' (p' (g := gb206) (o := .cells #[.int .i64 0, .int .i64 0, .slice none 0 0] 25 (0, 0)) (by (with_reducible repeat (first | apply c' | apply e' | apply d')); exact BK206.out) hb)
      have n6_ := ae' (s' (by repeat (first | (with_reducible first | exact HB.out | apply h' | apply f' | apply g' | refine b' ?_ GE185.out | refine b' ?_ GE192.out | refine b' ?_ GE206.out) | exact HB.out)) hb)
      clear HO189
      clear BK185
      clear BK192
      clear HR197
      clear HR202
      clear BK206
      clear HB
      have HO189 := n0_
      have BK185 := n1_
      have BK192 := n2_
      have HR197 := n3_
      have HR202 := n4_
      have BK206 := n5_
      have HB := n6_
      clear n0_ n1_ n2_ n3_ n4_ n5_ n6_
      (try clear hb)
      (try clear hb2)
      (try clear hk)
      (try clear hi)
      refine hK.out _ _ ⟨(q' BK192.out 0).trans rfl, (q' BK192.out 1).trans rfl⟩ (fun hHeld => ?_)
      clear hK K
      refine norm_ (a' := ?_) ?_ ?_
      rotate_left
      · show Act.put _ (some 37) _ = _
        simp only [Act.put, v', x', y', i64_w, i32_w]
        rfl
      refine one_ (i := 6) (N := some 41) #[Y,Y,Y,Y,Y,Y,Y,Y,Y,Y,Z,Z,Y,Z] rfl rfl (one_of HT_.out (by kernel_rfl)) (by decide) (fun K hK => ?_)
      refine goes_ Try.func45 (by kernel_rfl) rfl #[.slice A34 y194.length c34] (by rfl) rfl rfl (by (try simp only [z', aa', ab']); first | done | rfl | (simp only [ac', ad']; rfl)) ?_
      with_reducible refine (snap_number.calls k _ _ y194 t198 _ ?side1 ?side2 A16.out).mono ?_
      (case side1 => repeat (first | exact (by repeat (first | (with_reducible exact HR197.out) | (with_reducible refine k' ?_ _) | (with_reducible refine j' ?_ _) | (with_reducible refine n' ?_) | exact HR197.out)) | (with_reducible refine k' ?_ _) | (with_reducible refine j' ?_ _) | (with_reducible refine n' ?_)))
      (case side2 => exact HC197.out)
      rintro e w38 ⟨rfl, hb⟩
      refine ⟨_, rfl, ?_⟩
      have n0_ := ae' (Kd.R_below (by (with_reducible repeat (first | apply m' | apply l' | apply o')); exact HO189.out) hb)
      have n1_ := ae' (p' (g := gb185) (o := .cells #[.int .i64 0, .int .i64 0, .slice none 0 0] 25 (0, 0)) (by (with_reducible repeat (first | apply c' | apply e' | apply d')); exact BK185.out) hb)
      have n2_ := ae' (p' (g := gb192) (o := .cells #[.int .i64 t186, .slice Ao31 t187.length co31] 80 (0, 0)) (by (with_reducible repeat (first | apply c' | apply e' | apply d')); exact BK192.out) hb)
      have n3_ := ae' (r' (by repeat (first | (with_reducible exact HR197.out) | (with_reducible refine k' ?_ _) | (with_reducible refine j' ?_ _) | (with_reducible refine n' ?_) | exact HR197.out)) hb)
      have n4_ := ae' (r' (by repeat (first | (with_reducible exact HR202.out) | (with_reducible refine k' ?_ _) | (with_reducible refine j' ?_ _) | (with_reducible refine n' ?_) | exact HR202.out)) hb)
      have n5_ := ae' (p' (g := gb206) (o := .cells #[.int .i64 0, .int .i64 0, .slice none 0 0] 25 (0, 0)) (by (with_reducible repeat (first | apply c' | apply e' | apply d')); exact BK206.out) hb)
      have n6_ := ae' (s' (by repeat (first | (with_reducible first | exact HB.out | apply h' | apply f' | apply g' | refine b' ?_ GE185.out | refine b' ?_ GE192.out | refine b' ?_ GE206.out) | exact HB.out)) hb)
      clear HO189
      clear BK185
      clear BK192
      clear HR197
      clear HR202
      clear BK206
      clear HB
      have HO189 := n0_
      have BK185 := n1_
      have BK192 := n2_
      have HR197 := n3_
      have HR202 := n4_
      have BK206 := n5_
      have HB := n6_
      clear n0_ n1_ n2_ n3_ n4_ n5_ n6_
      (try clear hb)
      (try clear hb2)
      (try clear hk)
      (try clear hi)
      refine hK.out _ _ ⟨(q' BK192.out 0).trans rfl, (q' BK192.out 1).trans rfl⟩ (fun hHeld => ?_)
      clear hK K
      refine norm_ (a' := ?_) ?_ ?_
      rotate_left
      · show Act.put _ (some 41) _ = _
        simp only [Act.put, v', x', y', i64_w, i32_w]
        rfl
      refine one_ (i := 10) (N := some 45) #[Y,Y,Y,Y,Y,Y,Y,Y,Y,Y,Y,Z,Y,Z] rfl rfl (one_of HT_.out (by kernel_rfl)) (by decide) (fun K hK => ?_)
      refine goes_ Try.func46 (by kernel_rfl) rfl #[.slice A35 y199.length c35] (by rfl) rfl rfl (by (try simp only [z', aa', ab']); first | done | rfl | (simp only [ac', ad']; rfl)) ?_
      with_reducible refine (bytes_Clone.calls _ _ y199 t203 _ ?side1 ?side2 A18.out).mono ?_
      (case side1 => repeat (first | exact (by repeat (first | (with_reducible exact HR202.out) | (with_reducible refine k' ?_ _) | (with_reducible refine j' ?_ _) | (with_reducible refine n' ?_) | exact HR202.out)) | (with_reducible refine k' ?_ _) | (with_reducible refine j' ?_ _) | (with_reducible refine n' ?_)))
      (case side2 => exact HC202.out)
      rintro e w39 ⟨v204, rfl, ho0, hb⟩
      refine ⟨_, rfl, ?_⟩
      have n0_ := ae' (Kd.R_elder' (by (with_reducible repeat (first | apply m' | apply l' | apply o')); exact HO189.out) (Kd.R_base ho0) hb)
      have n1_ := ae' (Kd.R_lower (Kd.R_new' ho0 (Kd.R_lt (by (with_reducible repeat (first | apply m' | apply l' | apply o')); exact HO189.out))) (u' (by repeat (first | (with_reducible first | exact HB.out | apply h' | apply f' | apply g' | refine b' ?_ GE185.out | refine b' ?_ GE192.out | refine b' ?_ GE206.out) | exact HB.out))))
      have n2_ := ae' (p' (g := gb185) (o := .cells #[.int .i64 0, .int .i64 0, .slice none 0 0] 25 (0, 0)) (by (with_reducible repeat (first | apply c' | apply e' | apply d')); exact BK185.out) hb)
      have n3_ := ae' (p' (g := gb192) (o := .cells #[.int .i64 t186, .slice Ao31 t187.length co31] 80 (0, 0)) (by (with_reducible repeat (first | apply c' | apply e' | apply d')); exact BK192.out) hb)
      have n4_ := ae' (r' (by repeat (first | (with_reducible exact HR197.out) | (with_reducible refine k' ?_ _) | (with_reducible refine j' ?_ _) | (with_reducible refine n' ?_) | exact HR197.out)) hb)
      have n5_ := ae' (r' (by repeat (first | (with_reducible exact HR202.out) | (with_reducible refine k' ?_ _) | (with_reducible refine j' ?_ _) | (with_reducible refine n' ?_) | exact HR202.out)) hb)
      have n6_ := ae' (p' (g := gb206) (o := .cells #[.int .i64 0, .int .i64 0, .slice none 0 0] 25 (0, 0)) (by (with_reducible repeat (first | apply c' | apply e' | apply d')); exact BK206.out) hb)
      have n7_ := ae' (s' (by repeat (first | (with_reducible first | exact HB.out | apply h' | apply f' | apply g' | refine b' ?_ GE185.out | refine b' ?_ GE192.out | refine b' ?_ GE206.out) | exact HB.out)) hb)
      clear HO189
      clear BK185
      clear BK192
      clear HR197
      clear HR202
      clear BK206
      clear HB
      have HO189 := n0_
      have HO205 := n1_
      have BK185 := n2_
      have BK192 := n3_
      have HR197 := n4_
      have HR202 := n5_
      have BK206 := n6_
      have HB := n7_
      clear n0_ n1_ n2_ n3_ n4_ n5_ n6_ n7_
      (try clear hb)
      (try clear hb2)
      (try clear hk)
      (try clear hi)
      (try clear ho0)
      obtain ⟨Ao40, co40, eo40⟩ := Kd.R_slice HO205.out
      (first | subst eo40 | (injection eo40 with f1_ f2_ f3_; have f4_ := f1_.symm; have f5_ := f3_.symm; clear f1_ f2_ f3_; subst f4_; subst f5_))
      refine hK.out _ _ ⟨(q' BK192.out 0).trans rfl, (q' BK192.out 1).trans rfl⟩ (fun hHeld => ?_)
      clear hK K
      refine norm_ (a' := ?_) ?_ ?_
      rotate_left
      · show Act.put _ (some 45) _ = _
        simp only [Act.put, v', x', y', i64_w, i32_w]
        rfl
      refine pure_ (i := 11) (N := some 46) (v := ?_) (a' := ?_) #[Y,Y,Y,Y,Y,Y,Y,Y,Y,Y,Y,Y,Y,Z] rfl rfl (any_of HT_.out (by kernel_rfl)) (fun _ _ _ h => h) (Or.inl ⟨by rfl, ?_⟩) ?_ ?_
      rotate_left
      · intro w'
        go_simp
        with_reducible rfl
      rotate_left
      · simp only [Act.put, v', x', y', i64_w, i32_w]
        rfl
      exact norm_ (by simp only [putAll, Act.put, v', x', y']) (hCont (.slice Ao40 t203.length co40, gb206) _ ⟨hHeld, (by (with_reducible repeat (first | apply m' | apply l' | apply o')); exact Kd.R_mono HO189.out (fun _ hk => hk.2)), (by (with_reducible repeat (first | apply m' | apply l' | apply o')); exact Kd.R_mono HO205.out (fun _ hk => hk.2)), (by (with_reducible repeat (first | apply c' | apply e' | apply d')); exact BK185.out), (by (with_reducible repeat (first | apply c' | apply e' | apply d')); exact BK192.out), (by (with_reducible repeat (first | apply c' | apply e' | apply d')); exact BK206.out), GW206.out, GE206.out, NB185_206.out, NB206_185.out, NB192_206.out, NB206_192.out, (by repeat (first | (with_reducible first | exact HB.out | apply h' | apply f' | apply g' | refine b' ?_ GE185.out | refine b' ?_ GE192.out | refine b' ?_ GE206.out) | exact HB.out))⟩)
  rintro ⟨v204, gb206⟩ w41 ⟨hS_, h0_, h1_, h2_, h3_, h4_, h5_, h6_, h7_, h8_, h9_, h10_, h11_⟩
  have n0_ : Aside0 (Kd.R (Kd.int .u8) 5 w41 w.heap.size (fun k_ => some k_ ≠ (v204 : Value).ownBlock) (.slice Ao31 t187.length co31) t187) := ⟨h0_⟩
  have n1_ : Aside0 (Kd.R (Kd.int .u8) 5 w41 w.heap.size (fun k_ => some k_ ≠ (.slice Ao31 t187.length co31 : Value).ownBlock) v204 t203) := ⟨h1_⟩
  have n2_ : Aside0 (w41.heap[gb185]? = some (.cells #[.int .i64 0, .int .i64 0, .slice none 0 0] 25 (0, 0))) := ⟨h2_⟩
  have n3_ : Aside0 (w41.heap[gb192]? = some (.cells #[.int .i64 t186, .slice Ao31 t187.length co31] 80 (0, 0))) := ⟨h3_⟩
  have n4_ : Aside0 (w41.heap[gb206]? = some (.cells #[.int .i64 0, .int .i64 0, .slice none 0 0] 25 (0, 0))) := ⟨h4_⟩
  have n5_ : Aside0 (w.heap.size ≤ gb206) := ⟨h5_⟩
  have n6_ : Aside0 (w.heap.size ≤ gb206) := ⟨h6_⟩
  have n7_ : Aside0 (gb185 ≠ gb206) := ⟨h7_⟩
  have n8_ : Aside0 (gb206 ≠ gb185) := ⟨h8_⟩
  have n9_ : Aside0 (gb192 ≠ gb206) := ⟨h9_⟩
  have n10_ : Aside0 (gb206 ≠ gb192) := ⟨h10_⟩
  have n11_ : Aside0 (Below w.heap.size w w41) := ⟨h11_⟩
  clear HO189
  clear BK185
  clear BK192
  clear HB
  clear h0_ h1_ h2_ h3_ h4_ h5_ h6_ h7_ h8_ h9_ h10_ h11_
  have HO189 := n0_
  have HO205 := n1_
  have BK185 := n2_
  have BK192 := n3_
  have BK206 := n4_
  have GW206 := n5_
  have GE206 := n6_
  have NB185_206 := n7_
  have NB206_185 := n8_
  have NB192_206 := n9_
  have NB206_192 := n10_
  have HB := n11_
  clear n0_ n1_ n2_ n3_ n4_ n5_ n6_ n7_ n8_ n9_ n10_ n11_
  have hHeld : w41.cell? ⟨gb192, 0, none⟩ = some (.int .i64 t186) ∧ w41.cell? ⟨gb192, 1, none⟩ = some (.slice Ao31 t187.length co31) := hS_
  obtain ⟨Ao42, co42, eo42⟩ := Kd.R_slice HO205.out
  (first | subst eo42 | (injection eo42 with f1_ f2_ f3_; have f4_ := f1_.symm; have f5_ := f3_.symm; clear f1_ f2_ f3_; subst f4_; subst f5_))
  refine norm_ (a' := ?_) ?_ ?_
  rotate_left
  · simp only [putAll, Act.put, v', x', y']
    rfl
  refine one_ (i := 13) (N := none) #[Y,Y,Y,Y,Y,Y,Y,Y,Y,Y,Y,Y,Y,Y] rfl rfl (one_of HT_.out (by kernel_rfl)) (by decide) (fun K hK => ?_)
  have hs43 : w41.cell? ⟨gb206, 0, none⟩ = some (.int .i64 0) := (q' BK206.out 0).trans rfl
  have hfs43 := blk_frozen BK206.out 0
  have hns43_0 := NB185_206.out
  have hns43_1 := NB192_206.out
  have hms43_0 := NB206_185.out
  have hms43_1 := NB206_192.out
  have hs44 : w41.cell? ⟨gb206, 1, none⟩ = some (.int .i64 0) := (q' BK206.out 1).trans rfl
  have hfs44 := blk_frozen BK206.out 1
  have hns44_0 := NB185_206.out
  have hns44_1 := NB192_206.out
  have hms44_0 := NB206_185.out
  have hms44_1 := NB206_192.out
  have hs45 : w41.cell? ⟨gb206, 2, none⟩ = some (.slice none 0 0) := (q' BK206.out 2).trans rfl
  have hfs45 := blk_frozen BK206.out 2
  have hns45_0 := NB185_206.out
  have hns45_1 := NB192_206.out
  have hms45_0 := NB206_185.out
  have hms45_1 := NB206_192.out
  refine skip_ (w1 := ?_) (by rfl) rfl ?_ ?_
  rotate_left
  · go_simp
    rfl
  refine hK.out _ _ ⟨((cell_far (p := ⟨gb206, _, none⟩) NB192_206.out _).trans (((cell_far (p := ⟨gb206, _, none⟩) NB192_206.out _).trans (((cell_far (p := ⟨gb206, _, none⟩) NB192_206.out _).trans (hHeld.1)))))), ((cell_far (p := ⟨gb206, _, none⟩) NB192_206.out _).trans (((cell_far (p := ⟨gb206, _, none⟩) NB192_206.out _).trans (((cell_far (p := ⟨gb206, _, none⟩) NB192_206.out _).trans (hHeld.2))))))⟩ (fun hHeld => ?_)
  clear hK K
  refine done_ (done_of HT_.out (by kernel_rfl)) ?_
  have hnb46 := NB206_185.out
  have hnc46 := NB185_206.out
  have hnb47 := NB206_192.out
  have hnc47 := NB192_206.out
  have hcz48_0 : w41.cell? ⟨gb206, 0, none⟩ = some (.int .i64 0) := (q' BK206.out 0).trans rfl
  have hcz48_1 : w41.cell? ⟨gb206, 1, none⟩ = some (.int .i64 0) := (q' BK206.out 1).trans rfl
  have hcz48_2 : w41.cell? ⟨gb206, 2, none⟩ = some (.slice none 0 0) := (q' BK206.out 2).trans rfl
  have hfz48_0 := blk_frozen BK206.out 0
  have hfz48_1 := blk_frozen BK206.out 1
  have hfz48_2 := blk_frozen BK206.out 2
  try go_wp2_with (first | ((with_reducible refine gate_callee (f := 24) rfl ?_); refine goesL_ (some 48) rfl rfl Try.func24 (by kernel_rfl) rfl #[.agg #[.int .i64 t193, .int .i64 t198, .slice Ao42 t203.length co42]] rfl (by (try simp only [z', aa', ab']); first | done | rfl | (simp only [ac', ad']; rfl)) ?_; (with_reducible refine (snap_Check.calls k t193 t198 _ _ t203 t207 _ ?side1 ?side2 A19.out).mono ?_); (case side1 => refine (Kd.R_reads' (e := 5) (base := w.heap.size) (ok := fun k_ => some k_ ≠ (.slice Ao31 t187.length co31 : Value).ownBlock) (n := t203.length) (c := co42) ?_).2.2; exact (by (with_reducible repeat (first | apply m' | apply l' | apply o')); exact (Kd.R_mono (Kd.R_far (p := ⟨gb206, 2, none⟩) (Kd.R_far (p := ⟨gb206, 1, none⟩) (Kd.R_far (p := ⟨gb206, 0, none⟩) (Kd.R_types HO205.out BK206.out (by decide)) (fun _ hk => hk.2) (.int .i64 t193)) (fun _ hk => hk.2) (.int .i64 t198)) (fun _ hk => hk.2) (.slice Ao42 t203.length co42)) (fun _ h_ => h_.1)))); (case side2 => exact (Kd.R_reads' HO205.out).2.1); rintro e w49 ⟨rfl, hb⟩; refine ⟨_, rfl, ?_⟩; have n0_ := ae' (Kd.R_below (by (with_reducible repeat (first | apply m' | apply l' | apply o')); exact (Kd.R_mono (Kd.R_far (p := ⟨gb206, 2, none⟩) (Kd.R_far (p := ⟨gb206, 1, none⟩) (Kd.R_far (p := ⟨gb206, 0, none⟩) (Kd.R_types HO189.out BK206.out (by decide)) (fun _ hk => hk.2) (.int .i64 t193)) (fun _ hk => hk.2) (.int .i64 t198)) (fun _ hk => hk.2) (.slice Ao42 t203.length co42)) (fun _ h_ => h_.1))) hb); have n1_ := ae' (Kd.R_below (by (with_reducible repeat (first | apply m' | apply l' | apply o')); exact (Kd.R_mono (Kd.R_far (p := ⟨gb206, 2, none⟩) (Kd.R_far (p := ⟨gb206, 1, none⟩) (Kd.R_far (p := ⟨gb206, 0, none⟩) (Kd.R_types HO205.out BK206.out (by decide)) (fun _ hk => hk.2) (.int .i64 t193)) (fun _ hk => hk.2) (.int .i64 t198)) (fun _ hk => hk.2) (.slice Ao42 t203.length co42)) (fun _ h_ => h_.1))) hb); have n2_ := ae' (p' (g := gb185) (o := .cells #[.int .i64 0, .int .i64 0, .slice none 0 0] 25 (0, 0)) (by (with_reducible repeat (first | apply c' | apply e' | apply d')); refine blk_far ?_ NB185_206.out _; (with_reducible repeat (first | apply c' | apply e' | apply d')); refine blk_far ?_ NB185_206.out _; (with_reducible repeat (first | apply c' | apply e' | apply d')); refine blk_far ?_ NB185_206.out _; (with_reducible repeat (first | apply c' | apply e' | apply d')); exact BK185.out) hb); have n3_ := ae' (p' (g := gb192) (o := .cells #[.int .i64 t186, .slice Ao31 t187.length co31] 80 (0, 0)) (by (with_reducible repeat (first | apply c' | apply e' | apply d')); refine blk_far ?_ NB192_206.out _; (with_reducible repeat (first | apply c' | apply e' | apply d')); refine blk_far ?_ NB192_206.out _; (with_reducible repeat (first | apply c' | apply e' | apply d')); refine blk_far ?_ NB192_206.out _; (with_reducible repeat (first | apply c' | apply e' | apply d')); exact BK192.out) hb); have n4_ := ae' (p' (g := gb206) (o := .cells #[.int .i64 t193, .int .i64 t198, .slice Ao42 t203.length co42] 25 (0, 0)) (by (with_reducible repeat (first | apply c' | apply e' | apply d')); refine blk_put (cs := #[.int .i64 t193, .int .i64 t198, .slice none 0 0]) ?_ 2 _ rfl; (with_reducible repeat (first | apply c' | apply e' | apply d')); refine blk_put (cs := #[.int .i64 t193, .int .i64 0, .slice none 0 0]) ?_ 1 _ rfl; (with_reducible repeat (first | apply c' | apply e' | apply d')); refine blk_put (cs := #[.int .i64 0, .int .i64 0, .slice none 0 0]) ?_ 0 _ rfl; (with_reducible repeat (first | apply c' | apply e' | apply d')); exact BK206.out) hb); have n5_ := ae' (s' (by repeat (first | (with_reducible first | exact HB.out | apply h' | apply f' | apply g' | refine b' ?_ GE185.out | refine b' ?_ GE192.out | refine b' ?_ GE206.out) | exact HB.out)) hb); clear HO189; clear HO205; clear BK185; clear BK192; clear BK206; clear HB; have HO189 := n0_; have HO205 := n1_; have BK185 := n2_; have BK192 := n3_; have BK206 := n4_; have HB := n5_; clear n0_ n1_ n2_ n3_ n4_ n5_; (try clear hb); (try clear hb2); (try clear hk); (try clear hi)) | ((with_reducible refine gate_dst (N := 53) rfl ?_); refine Kd.R_lit (Kd.int .u8) _ 5 ?hg (N := 53) ?hd (xs := ([0] : List Int)) (inner := [.int .u8 0]) (ok := fun _ => True) (okp := fun _ => True) ?hr ?hp (fun _ hk => hk) trivial (Below.refl _ _) (Nat.le_refl _) (by simp) ?_; (case hd => rfl); (case hg => rfl); (case hr => first | (go_simp; done) | (go_simp; rfl)); (case hp => exact (Reps.one (show Kd.M (Kd.int .u8) _ _ _ 0 [.int .u8 0] from rfl) (Reps.none _ _))); intro v209 w50 ho51 hb hg_ hnew_; clear hg_ hnew_; (first | rw [← Ny208.out] at ho51 | (simp only [Int.reduceToNat] at ho51; rw [← Ny208.out] at ho51)); have n0_ := ae' (Kd.R_elder' (by (with_reducible repeat (first | apply m' | apply l' | apply o')); exact HO189.out) (Kd.R_base ho51) hb); have n1_ := ae' (Kd.R_elder' (by (with_reducible repeat (first | apply m' | apply l' | apply o')); exact HO205.out) (Kd.R_base ho51) hb); have n2_ := ae' (Kd.R_lower (Kd.R_new' (Kd.R_new' ho51 (Kd.R_lt (by (with_reducible repeat (first | apply m' | apply l' | apply o')); exact HO189.out))) (Kd.R_lt (by (with_reducible repeat (first | apply m' | apply l' | apply o')); exact HO205.out))) (u' (by repeat (first | (with_reducible first | exact HB.out | apply h' | apply f' | apply g' | refine b' ?_ GE185.out | refine b' ?_ GE192.out | refine b' ?_ GE206.out) | exact HB.out)))); have n3_ := ae' (p' (g := gb185) (o := .cells #[.int .i64 0, .int .i64 0, .slice none 0 0] 25 (0, 0)) (by (with_reducible repeat (first | apply c' | apply e' | apply d')); exact BK185.out) hb); have n4_ := ae' (p' (g := gb192) (o := .cells #[.int .i64 t186, .slice Ao31 t187.length co31] 80 (0, 0)) (by (with_reducible repeat (first | apply c' | apply e' | apply d')); exact BK192.out) hb); have n5_ := ae' (p' (g := gb206) (o := .cells #[.int .i64 t193, .int .i64 t198, .slice Ao42 t203.length co42] 25 (0, 0)) (by (with_reducible repeat (first | apply c' | apply e' | apply d')); exact BK206.out) hb); have n6_ := ae' (s' (by repeat (first | (with_reducible first | exact HB.out | apply h' | apply f' | apply g' | refine b' ?_ GE185.out | refine b' ?_ GE192.out | refine b' ?_ GE206.out) | exact HB.out)) hb); clear HO189; clear HO205; clear BK185; clear BK192; clear BK206; clear HB; have HO189 := n0_; have HO205 := n1_; have HO210 := n2_; have BK185 := n3_; have BK192 := n4_; have BK206 := n5_; have HB := n6_; clear n0_ n1_ n2_ n3_ n4_ n5_ n6_; clear hb ho51; have q52 : (t190 : Int) ≤ ((l0.length : Int) : Int) := of_decide_eq_true (by first | (with_reducible assumption) | assumption); obtain ⟨i052, hi052, _, hsz52, _⟩ := info_parts info5; have hroom52 : l0.length ≤ c0 := HC0.out; have hC52 : Kd.C (Kd.int .u8) _ A0 l0.length l0 := HR0.out; have q052 : (0 : Int) ≤ (t190 : Int) := of_decide_eq_true (by first | (with_reducible assumption) | assumption); have hcut52 := cut_from (P := Try.prog) 22 5 .i64 Try.underlying22 hi052 1 hsz52 A0 l0.length c0 t190 q052 q52; have hr52 := Kd.C_drop (m := (t190 : Int).toNat) (c := c0) hC52 (by omega) hroom52; obtain ⟨A52, hA52⟩ : ∃ A1, A1 = (if c0 = (t190 : Int).toNat then A0 else (A0 : Option Addr).map (·.add ((t190 : Int).toNat * 1))) := ⟨_, rfl⟩; obtain ⟨c52, hc52⟩ : ∃ c1, c1 = c0 - (t190 : Int).toNat := ⟨_, rfl⟩; have hy52 : y211.length = l0.length - (t190 : Int).toNat := (by rw [Ny211.out, ac'] <;> omega); rw [show (l0).drop (t190 : Int).toNat = y211 from Ny211.out.symm] at hr52; replace hr52 : Kd.C (Kd.int .u8) _ A52 y211.length y211 := (by rw [hA52]; exact hr52); rw [← hy52, ← hA52, ← hc52] at hcut52; have HR214 := ae' hr52; have HC214 := ae' (show y211.length ≤ c52 from by rw [hy52, hc52]; exact Nat.sub_le_sub_right hroom52 _); clear hr52 hC52 hroom52 hi052 hsz52 hc52; have KY52 := ae' hy52; have KA52 := ae' hA52; clear hy52 hA52; replace q52 := eq_true q52) | ((with_reducible refine gate_builtin (b := .append) (xs := #[.tmp 53, .tmp 56]) rfl ?_); at_builtin; refine Kd.R_append_rows (Kd.int .u8) (w0 := w) w.heap.size rfl (.tmp 53) (.tmp 56) 22 5 (.int .u8 0) 1 rfl Try.underlying22 info5 rfl (by decide) (by omega) v209 y208 y211 _ _ _ (fun k_ => some k_ ≠ (.slice Ao31 t187.length co31 : Value).ownBlock ∧ some k_ ≠ (.slice Ao42 t203.length co42 : Value).ownBlock) (fun _ => False) rfl rfl ?aO ?aR (fun _ _ h => h) (fun _ h => h.elim) ?aF ?aB ?aS ?aL ?_; (case aR => repeat (first | exact (r' HR214.out HB.out) | (with_reducible refine k' ?_ _) | (with_reducible refine j' ?_ _) | (with_reducible refine n' ?_))); (case aB => exact (by repeat (first | (with_reducible first | exact HB.out | apply h' | apply f' | apply g' | refine b' ?_ GE185.out | refine b' ?_ GE192.out | refine b' ?_ GE206.out) | exact HB.out))); (case aF => exact (fun k_ hk => ⟨Kd.fresh' (Kd.R_lt (by (with_reducible repeat (first | apply m' | apply l' | apply o')); exact HO189.out)) k_ hk, Kd.fresh' (Kd.R_lt (by (with_reducible repeat (first | apply m' | apply l' | apply o')); exact HO205.out)) k_ hk⟩)); (case aO => exact (by (with_reducible repeat (first | apply m' | apply l' | apply o')); exact Kd.R_mono HO210.out (fun _ hk => ⟨hk.1.2, hk.2⟩))); (case aS => exact (u' (by repeat (first | (with_reducible first | exact HB.out | apply h' | apply f' | apply g' | refine b' ?_ GE185.out | refine b' ?_ GE192.out | refine b' ?_ GE206.out) | exact HB.out)))); (case aL => have := LMc23.out; omega); intro v216 w53 ho hb hg hat; rw [← Ny215.out] at ho; have n0_ := ae' (blk_grown (g := gb185) (o := .cells #[.int .i64 0, .int .i64 0, .slice none 0 0] 25 (0, 0)) (by (with_reducible repeat (first | apply c' | apply e' | apply d')); exact BK185.out) hg (Kd.R_ne HO210.out BK185.out (by decide))); have n1_ := ae' (Kd.R_after (ok := (fun k_ => some k_ ≠ (.slice Ao42 t203.length co42 : Value).ownBlock)) (by (with_reducible repeat (first | apply m' | apply l' | apply o')); exact HO189.out) hg hat); have n2_ := ae' (blk_grown (g := gb192) (o := .cells #[.int .i64 t186, .slice Ao31 t187.length co31] 80 (0, 0)) (by (with_reducible repeat (first | apply c' | apply e' | apply d')); exact BK192.out) hg (Kd.R_ne HO210.out BK192.out (by decide))); have n3_ := ae' (Kd.R_after (ok := (fun k_ => some k_ ≠ (.slice Ao31 t187.length co31 : Value).ownBlock)) (by (with_reducible repeat (first | apply m' | apply l' | apply o')); exact HO205.out) hg hat); have n4_ := ae' (blk_grown (g := gb206) (o := .cells #[.int .i64 t193, .int .i64 t198, .slice Ao42 t203.length co42] 25 (0, 0)) (by (with_reducible repeat (first | apply c' | apply e' | apply d')); exact BK206.out) hg (Kd.R_ne HO210.out BK206.out (by decide))); have n5_ := ae' (hb); have n6_ := ae' (ho); clear BK185; clear HO189; clear BK192; clear HO205; clear BK206; clear HB; clear HO210; have BK185 := n0_; have HO189 := n1_; have BK192 := n2_; have HO205 := n3_; have BK206 := n4_; have HB := n5_; have HO217 := n6_; clear n0_ n1_ n2_ n3_ n4_ n5_ n6_; clear ho hb hg hat; obtain ⟨Ao54, co54, eo54⟩ := Kd.R_slice HO217.out; subst eo54) | ((with_reducible refine gate_callee (f := 47) rfl ?_); refine goesL_ (some 58) rfl rfl Try.func47 (by kernel_rfl) rfl #[.slice Ao54 y215.length co54] rfl (by (try simp only [z', aa', ab']); first | done | rfl | (simp only [ac', ad']; rfl)) ?_; (with_reducible refine (slices_Max_byte_byte.calls k _ _ y215 t218 _ ?side1 ?side2 A24.out).mono ?_); (case side1 => repeat (first | exact (Kd.R_reads' HO217.out).2.2 | (with_reducible refine k' ?_ _) | (with_reducible refine j' ?_ _) | (with_reducible refine n' ?_))); (case side2 => exact (Kd.R_reads' HO217.out).2.1); rintro e w55 ⟨rfl, hb⟩; refine ⟨_, rfl, ?_⟩; have n0_ := ae' (Kd.R_below (by (with_reducible repeat (first | apply m' | apply l' | apply o')); exact HO189.out) hb); have n1_ := ae' (Kd.R_below (by (with_reducible repeat (first | apply m' | apply l' | apply o')); exact HO205.out) hb); have n2_ := ae' (Kd.R_below (by (with_reducible repeat (first | apply m' | apply l' | apply o')); exact HO217.out) hb); have n3_ := ae' (p' (g := gb185) (o := .cells #[.int .i64 0, .int .i64 0, .slice none 0 0] 25 (0, 0)) (by (with_reducible repeat (first | apply c' | apply e' | apply d')); exact BK185.out) hb); have n4_ := ae' (p' (g := gb192) (o := .cells #[.int .i64 t186, .slice Ao31 t187.length co31] 80 (0, 0)) (by (with_reducible repeat (first | apply c' | apply e' | apply d')); exact BK192.out) hb); have n5_ := ae' (p' (g := gb206) (o := .cells #[.int .i64 t193, .int .i64 t198, .slice Ao42 t203.length co42] 25 (0, 0)) (by (with_reducible repeat (first | apply c' | apply e' | apply d')); exact BK206.out) hb); have n6_ := ae' (s' (by repeat (first | (with_reducible first | exact HB.out | apply h' | apply f' | apply g' | refine b' ?_ GE185.out | refine b' ?_ GE192.out | refine b' ?_ GE206.out) | exact HB.out)) hb); clear HO189; clear HO205; clear HO217; clear BK185; clear BK192; clear BK206; clear HB; have HO189 := n0_; have HO205 := n1_; have HO217 := n2_; have BK185 := n3_; have BK192 := n4_; have BK206 := n5_; have HB := n6_; clear n0_ n1_ n2_ n3_ n4_ n5_ n6_; (try clear hb); (try clear hb2); (try clear hk); (try clear hi); have hcz56_0 : w55.cell? ⟨gb185, 0, none⟩ = some (.int .i64 0) := (q' BK185.out 0).trans rfl; have hcz56_1 : w55.cell? ⟨gb185, 1, none⟩ = some (.int .i64 0) := (q' BK185.out 1).trans rfl; have hcz56_2 : w55.cell? ⟨gb185, 2, none⟩ = some (.slice none 0 0) := (q' BK185.out 2).trans rfl; have hfz56_0 := blk_frozen BK185.out 0; have hfz56_1 := blk_frozen BK185.out 1; have hfz56_2 := blk_frozen BK185.out 2))
  refine bodyPost_ret (results_ct rfl _ _ gb185 25 #[.int .i64 0, .int .i64 0, .slice none 0 0] (0, 0) _ rfl (by (with_reducible repeat (first | apply c' | apply e' | apply d')); refine blk_put (cs := #[.int .i64 0, .int .i64 0, .slice none 0 0]) ?_ 2 _ rfl; (with_reducible repeat (first | apply c' | apply e' | apply d')); refine blk_put (cs := #[.int .i64 0, .int .i64 0, .slice none 0 0]) ?_ 1 _ rfl; (with_reducible repeat (first | apply c' | apply e' | apply d')); refine blk_put (cs := #[.int .i64 0, .int .i64 0, .slice none 0 0]) ?_ 0 _ rfl; (with_reducible repeat (first | apply c' | apply e' | apply d')); exact BK185.out) Try.underlying25 rfl (by kernel_rfl)) rfl ?_
  exact ⟨_, by first | rfl | (simp [errW_none, errW_some] <;> rfl) | (simp [*, errW_none, errW_some] <;> rfl), by first | exact Kd.R_nil _ _ _ _ _ | exact Kd.N_nil _ _ _ _ _ | exact Kd.V_nil _ _ _ _ _ | exact Kd.Q_nil _ _ _ _ _ | exact Kd.S_nil _ _ _ _ _, by repeat (first | (with_reducible first | exact HB.out | apply h' | apply f' | apply g' | refine b' ?_ GE185.out | refine b' ?_ GE192.out | refine b' ?_ GE206.out) | exact HB.out)⟩
end Go.Proofs.Ytkdaeleolomdkaa.V
