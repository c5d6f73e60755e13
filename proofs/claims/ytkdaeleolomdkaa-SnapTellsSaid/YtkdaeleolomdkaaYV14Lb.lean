import Derived.Test.YtkdaeleolomdkaaYV0
import Derived.Test.YtkdaeleolomdkaaYV1
import Derived.Test.YtkdaeleolomdkaaYV10
import Derived.Test.YtkdaeleolomdkaaYV12
import Derived.Test.YtkdaeleolomdkaaYV13
import Derived.Test.YtkdaeleolomdkaaYV14L
namespace Go.Proofs.Ytkdaeleolomdkaa.V
open Go.Proofs.YtkdaeleolomdkaaW.PrintWords renaming below_set → b', blk_drewN → c', blk_alloc → d', blk_drew → e', pw_below_drewN → f', below_drew1 → g', below_alloc → h', blk_below → p', blk_cell → q', below_step → s', below_size → u'
open Go.Proofs.YtkdaeleolomdkaaW.PrintWords.Kd renaming C_drewN → j', C_alloc → k', R_drewN → l', R_alloc → m', R_drew → n', C_drew → o', C_below → r'
open List renaming setIfInBounds_toArray → v', set_cons_zero → x', set_cons_succ → y', map_toArray → z', map_cons → aa', map_nil → ab', length_drop → ac', length_take → ad'
open Go.Proofs.YtkdaeleolomdkaaW.PrintWords.Aside0 renaming mk → ae'
open Bool renaming true → Y, false → Z
open Go.RowKit Go.Proofs.YtkdaeleolomdkaaW.PrintWords Go.Proofs.YtkdaeleolomdkaaW.PrintLast Go.Proofs.YtkdaeleolomdkaaW.PrintMore
attribute [local go_sem] max2_int min2_int max_two min_two max_three min_three max_four min_four   -- for this text's walks alone
set_option linter.unusedVariables false
set_option linter.unusedSimpArgs false
set_option maxHeartbeats 8000000 in
set_option maxRecDepth 100000 in
theorem snap_Decode.calls.leaf1 (k : Nat) (A0 : Option Addr) (c0 : Nat) (l0 : List Int) (w : World) (HR0 : Aside0 ((Kd.int IntKind.u8).C w A0 l0.length l0)) (HC0 : Aside0 (l0.length ≤ c0)) (HB : Aside0 (Below w.heap.size w w)) (c2b0 : ((↑l0.length : Int) == 8160) = true) (c2b1 : ((↑l0.length : Int) != 8160) = false) (t186 : Int) (t187 : List Int) (t190 t191 : Int) (A3 : Aside0 (seal_Get.f l0 = some (t186, t187, t190, t191))) (c4b0 : (t191 == 0) = true) (c4b1 : (t191 != 0) = false) (c5b0 : (t186 == 3) = true) (c5b1 : (t186 != 3) = false) (c6b0 : decide ((↑t187.length : Int) < 16) = false) (c6b1 : decide (t187.length < 16) = false) (t193 : Int) (A14 : Aside0 (snap_number.f k t187 = some t193)) (c15b0 : (8 ≤ (↑t187.length : Int)) = True) (c15b1 : decide (8 ≤ (↑t187.length : Int)) = true) (y194 : List Int) (Ny194 : Aside0 (y194 = List.drop 8 t187)) (t198 : Int) (A16 : Aside0 (snap_number.f k y194 = some t198)) (c17b0 : (16 ≤ (↑t187.length : Int)) = True) (c17b1 : decide (16 ≤ (↑t187.length : Int)) = true) (y199 : List Int) (Ny199 : Aside0 (y199 = List.drop 16 t187)) (t203 : List Int) (A18 : Aside0 (bytes_Clone.f y199 = some t203)) (t207 : Int) (A19 : Aside0 (snap_Check.f k t193 t198 t203 = some t207)) (c20b0 : (t207 == 0) = true) (c20b1 : (t207 != 0) = false) (y208 : List Int) (Ny208 : Aside0 (y208 = [0])) (c21b0 : (0 ≤ t190) = True) (c21b1 : decide (0 ≤ t190) = true) (c22b0 : (t190 ≤ (↑l0.length : Int)) = True) (c22b1 : decide (t190 ≤ (↑l0.length : Int)) = true) (y211 : List Int) (Ny211 : Aside0 (y211 = List.drop t190.toNat l0)) (LMc23 : Aside0 (y208.length + y211.length < 140737488355328)) (y215 : List Int) (Ny215 : Aside0 (y215 = y208 ++ y211)) (t218 : Int) (A24 : Aside0 (slices_Max_byte_byte.f k y215 = some t218)) (c25b0 : decide (0 < t218) = false) :
    Calls Try.prog 17 #[Value.slice A0 l0.length c0] w fun e w' => ∃ v2_, e = Ending.returned (Value.tuple #[Value.agg #[Value.int IntKind.i64 t193, Value.int IntKind.i64 t198, v2_], Value.int IntKind.i64 0]) ∧ (Kd.int IntKind.u8).R 5 w' w.heap.size (fun x => True) v2_ t203 ∧ Below w.heap.size w w' := by
  have hu25 := Try.underlying25
  have hu80 := Try.underlying80
  go_enter Try.func17, Try.ntmps17
  try go_wp2_with (first | ((with_reducible refine gate_dst (N := 2) rfl ?_); refine box_event ?hg (N := 2) ?hd (cs := #[.int .i64 0, .int .i64 0, .slice none 0 0]) (t := 25) ?hr ?_; (case hd => rfl); (case hg => rfl); (case hr => first | (go_simp; done) | (go_simp; rfl)); intro gb185 hg w57 hbox hb; have n0_ := ae' (s' (by repeat (first | (with_reducible first | exact HB.out | apply h' | apply f' | apply g') | exact HB.out)) hb); have n1_ := ae' (hbox); have n2_ := ae' ((by rw [hg]; exact (u' (by repeat (first | (with_reducible first | exact HB.out | apply h' | apply f' | apply g') | exact HB.out))) : w.heap.size ≤ gb185)); have n3_ := ae' ((by rw [hg]; exact (u' (by repeat (first | (with_reducible first | exact HB.out | apply h' | apply f' | apply g') | exact HB.out))) : w.heap.size ≤ gb185)); clear HB; have HB := n0_; have BK185 := n1_; have GW185 := n2_; have GE185 := n3_; clear n0_ n1_ n2_ n3_; clear hb hbox hg) | ((with_reducible refine gate_callee (f := 44) rfl ?_); refine goesL_ (some 15) rfl rfl Try.func44 (by kernel_rfl) rfl #[.slice A0 l0.length c0] rfl (by (try simp only [z', aa', ab']); first | done | rfl | (simp only [ac', ad']; rfl)) ?_; (with_reducible refine (seal_Get.calls _ _ l0 t186 t187 t190 t191 _ ?side1 ?side2 A3.out).mono ?_); (case side1 => repeat (first | exact (r' HR0.out HB.out) | (with_reducible refine k' ?_ _) | (with_reducible refine j' ?_ _) | (with_reducible refine o' ?_))); (case side2 => exact HC0.out); rintro e w58 ⟨v188, rfl, ho0, hb⟩; refine ⟨_, rfl, ?_⟩; have n0_ := ae' (Kd.R_lower ho0 (u' (by repeat (first | (with_reducible first | exact HB.out | apply h' | apply f' | apply g' | refine b' ?_ GE185.out) | exact HB.out)))); have n1_ := ae' (p' (g := gb185) (o := .cells #[.int .i64 0, .int .i64 0, .slice none 0 0] 25 (0, 0)) (by (with_reducible repeat (first | apply c' | apply e' | apply d')); exact BK185.out) hb); have n2_ := ae' (s' (by repeat (first | (with_reducible first | exact HB.out | apply h' | apply f' | apply g' | refine b' ?_ GE185.out) | exact HB.out)) hb); clear BK185; clear HB; have HO189 := n0_; have BK185 := n1_; have HB := n2_; clear n0_ n1_ n2_; (try clear hb); (try clear hb2); (try clear hk); (try clear hi); (try clear ho0)) | ((with_reducible refine gate_dst (N := 4) rfl ?_); refine box_event ?hg (N := 4) ?hd (cs := #[.int .i64 0, .slice none 0 0]) (t := 80) ?hr ?_; (case hd => rfl); (case hg => rfl); (case hr => first | (go_simp; done) | (go_simp; rfl)); intro gb192 hg w59 hbox hb; have n0_ := ae' (Kd.R_below (by (with_reducible repeat (first | apply m' | apply l' | apply n')); exact HO189.out) hb); have n1_ := ae' (p' (g := gb185) (o := .cells #[.int .i64 0, .int .i64 0, .slice none 0 0] 25 (0, 0)) (by (with_reducible repeat (first | apply c' | apply e' | apply d')); exact BK185.out) hb); have n2_ := ae' (s' (by repeat (first | (with_reducible first | exact HB.out | apply h' | apply f' | apply g' | refine b' ?_ GE185.out) | exact HB.out)) hb); have n3_ := ae' (hbox); have n4_ := ae' ((by rw [hg]; exact (u' (by repeat (first | (with_reducible first | exact HB.out | apply h' | apply f' | apply g' | refine b' ?_ GE185.out) | exact HB.out))) : w.heap.size ≤ gb192)); have n5_ := ae' ((by rw [hg]; exact (u' (by repeat (first | (with_reducible first | exact HB.out | apply h' | apply f' | apply g' | refine b' ?_ GE185.out) | exact HB.out))) : w.heap.size ≤ gb192)); have n6_ := ae' ((by rw [hg]; exact Nat.ne_of_lt (blk_lt (g := gb185) (o := .cells #[.int .i64 0, .int .i64 0, .slice none 0 0] 25 (0, 0)) (by (with_reducible repeat (first | apply c' | apply e' | apply d')); exact BK185.out)) : gb185 ≠ gb192)); have n7_ := ae' ((by rw [hg]; exact Nat.ne_of_gt (blk_lt (g := gb185) (o := .cells #[.int .i64 0, .int .i64 0, .slice none 0 0] 25 (0, 0)) (by (with_reducible repeat (first | apply c' | apply e' | apply d')); exact BK185.out)) : gb192 ≠ gb185)); clear HO189; clear BK185; clear HB; have HO189 := n0_; have BK185 := n1_; have HB := n2_; have BK192 := n3_; have GW192 := n4_; have GE192 := n5_; have NB185_192 := n6_; have NB192_185 := n7_; clear n0_ n1_ n2_ n3_ n4_ n5_ n6_ n7_; clear hb hbox hg; have hnb60 := NB192_185.out; have hnc60 := NB185_192.out; have hcz61_0 : w59.cell? ⟨gb192, 0, none⟩ = some (.int .i64 0) := (q' BK192.out 0).trans rfl; have hcz61_1 : w59.cell? ⟨gb192, 1, none⟩ = some (.slice none 0 0) := (q' BK192.out 1).trans rfl; have hfz61_0 := blk_frozen BK192.out 0; have hfz61_1 := blk_frozen BK192.out 1; obtain ⟨Ao62, co62, eo62⟩ := Kd.R_slice HO189.out; subst eo62))
  have n0_ : Aside0 (Kd.R (Kd.int .u8) 5 ((w59.setCell ⟨gb192, 0, none⟩ (.int .i64 t186)).setCell ⟨gb192, 1, none⟩ (.slice Ao62 t187.length co62)) w.heap.size (fun _ => True) (.slice Ao62 t187.length co62) t187) := ⟨by (with_reducible repeat (first | apply m' | apply l' | apply n')); exact Kd.R_mono (Kd.R_far (p := ⟨gb192, 1, none⟩) (Kd.R_far (p := ⟨gb192, 0, none⟩) (Kd.R_types HO189.out BK192.out (by decide)) (fun _ hk => hk.2) (.int .i64 t186)) (fun _ hk => hk.2) (.slice Ao62 t187.length co62)) (fun _ hk => trivial)⟩
  have n1_ : Aside0 (((w59.setCell ⟨gb192, 0, none⟩ (.int .i64 t186)).setCell ⟨gb192, 1, none⟩ (.slice Ao62 t187.length co62)).heap[gb185]? = some (.cells #[.int .i64 0, .int .i64 0, .slice none 0 0] 25 (0, 0))) := ⟨by (with_reducible repeat (first | apply c' | apply e' | apply d')); refine blk_far ?_ NB185_192.out _; (with_reducible repeat (first | apply c' | apply e' | apply d')); refine blk_far ?_ NB185_192.out _; (with_reducible repeat (first | apply c' | apply e' | apply d')); exact BK185.out⟩
  have n2_ : Aside0 (((w59.setCell ⟨gb192, 0, none⟩ (.int .i64 t186)).setCell ⟨gb192, 1, none⟩ (.slice Ao62 t187.length co62)).heap[gb192]? = some (.cells #[.int .i64 t186, .slice Ao62 t187.length co62] 80 (0, 0))) := ⟨by (with_reducible repeat (first | apply c' | apply e' | apply d')); refine blk_put (cs := #[.int .i64 t186, .slice none 0 0]) ?_ 1 _ rfl; (with_reducible repeat (first | apply c' | apply e' | apply d')); refine blk_put (cs := #[.int .i64 0, .slice none 0 0]) ?_ 0 _ rfl; (with_reducible repeat (first | apply c' | apply e' | apply d')); exact BK192.out⟩
  have n3_ : Aside0 (Below w.heap.size w ((w59.setCell ⟨gb192, 0, none⟩ (.int .i64 t186)).setCell ⟨gb192, 1, none⟩ (.slice Ao62 t187.length co62))) := ⟨by repeat (first | (with_reducible first | exact HB.out | apply h' | apply f' | apply g' | refine b' ?_ GE185.out | refine b' ?_ GE192.out) | exact HB.out)⟩
  (try clear HO189)
  (try clear BK185)
  (try clear BK192)
  (try clear HB)
  generalize ((w59.setCell ⟨gb192, 0, none⟩ (.int .i64 t186)).setCell ⟨gb192, 1, none⟩ (.slice Ao62 t187.length co62)) = w63 at n0_ n1_ n2_ n3_ ⊢
  have HO189 := n0_
  have BK185 := n1_
  have BK192 := n2_
  have HB := n3_
  clear n0_ n1_ n2_ n3_
  have n0_ := ae' (n' HO189.out)
  have n1_ := ae' (e' BK185.out)
  have n2_ := ae' (e' BK192.out)
  have n3_ := ae' (g' HB.out)
  clear HO189
  clear BK185
  clear BK192
  clear HB
  have HO189 := n0_
  have BK185 := n1_
  have BK192 := n2_
  have HB := n3_
  clear n0_ n1_ n2_ n3_
  have q65 : (8 : Int) ≤ ((t187.length : Int) : Int) := of_decide_eq_true (by first | (with_reducible assumption) | assumption)
  obtain ⟨i065, hi065, _, hsz65, _⟩ := info_parts info5
  have hroom65 : t187.length ≤ co62 := (Kd.R_reads' HO189.out).2.1
  have hC65 : Kd.C (Kd.int .u8) _ Ao62 t187.length t187 := (Kd.R_reads' HO189.out).2.2
  have hcut65 := cut_from (P := Try.prog) 22 5 .i64 Try.underlying22 hi065 1 hsz65 Ao62 t187.length co62 8 (by omega) q65
  have hr65 := Kd.C_drop (m := (8 : Int).toNat) (c := co62) hC65 (by omega) hroom65
  obtain ⟨A65, hA65⟩ : ∃ A1, A1 = (if co62 = (8 : Int).toNat then Ao62 else (Ao62 : Option Addr).map (·.add ((8 : Int).toNat * 1))) := ⟨_, rfl⟩
  obtain ⟨c65, hc65⟩ : ∃ c1, c1 = co62 - (8 : Int).toNat := ⟨_, rfl⟩
  have hy65 : y194.length = t187.length - (8 : Int).toNat := (by rw [Ny194.out, ac'] <;> omega)
  rw [show (t187).drop (8 : Int).toNat = y194 from Ny194.out.symm] at hr65
  replace hr65 : Kd.C (Kd.int .u8) _ A65 y194.length y194 := (by rw [hA65]; exact hr65)
  rw [← hy65, ← hA65, ← hc65] at hcut65
  have HR197 := ae' hr65
  have HC197 := ae' (show y194.length ≤ c65 from by rw [hy65, hc65]; exact Nat.sub_le_sub_right hroom65 _)
  clear hr65 hC65 hroom65 hi065 hsz65 hc65
  have KY65 := ae' hy65
  have KA65 := ae' hA65
  clear hy65 hA65
  have KL65 := ae' (show 8 ≤ t187.length from by omega)
  replace q65 := eq_true q65
  have q66 : (16 : Int) ≤ ((t187.length : Int) : Int) := of_decide_eq_true (by first | (with_reducible assumption) | assumption)
  obtain ⟨i066, hi066, _, hsz66, _⟩ := info_parts info5
  have hroom66 : t187.length ≤ co62 := (Kd.R_reads' HO189.out).2.1
  have hC66 : Kd.C (Kd.int .u8) _ Ao62 t187.length t187 := (Kd.R_reads' HO189.out).2.2
  have hcut66 := cut_from (P := Try.prog) 22 5 .i64 Try.underlying22 hi066 1 hsz66 Ao62 t187.length co62 16 (by omega) q66
  have hr66 := Kd.C_drop (m := (16 : Int).toNat) (c := co62) hC66 (by omega) hroom66
  obtain ⟨A66, hA66⟩ : ∃ A1, A1 = (if co62 = (16 : Int).toNat then Ao62 else (Ao62 : Option Addr).map (·.add ((16 : Int).toNat * 1))) := ⟨_, rfl⟩
  obtain ⟨c66, hc66⟩ : ∃ c1, c1 = co62 - (16 : Int).toNat := ⟨_, rfl⟩
  have hy66 : y199.length = t187.length - (16 : Int).toNat := (by rw [Ny199.out, ac'] <;> omega)
  rw [show (t187).drop (16 : Int).toNat = y199 from Ny199.out.symm] at hr66
  replace hr66 : Kd.C (Kd.int .u8) _ A66 y199.length y199 := (by rw [hA66]; exact hr66)
  rw [← hy66, ← hA66, ← hc66] at hcut66
  have HR202 := ae' hr66
  have HC202 := ae' (show y199.length ≤ c66 from by rw [hy66, hc66]; exact Nat.sub_le_sub_right hroom66 _)
  clear hr66 hC66 hroom66 hi066 hsz66 hc66
  have KY66 := ae' hy66
  have KA66 := ae' hA66
  clear hy66 hA66
  have KL66 := ae' (show 16 ≤ t187.length from by omega)
  replace q66 := eq_true q66
  refine start_ (n := 14) (S := fun w' => w'.cell? ⟨gb192, 0, none⟩ = some (.int .i64 t186) ∧ w'.cell? ⟨gb192, 1, none⟩ = some (.slice Ao62 t187.length co62)) (ds := []) #[Z,Z,Z,Z,Z,Z,Z,Z,Z,Z,Z,Z,Z,Z] (by kernel_rfl) rfl rfl ⟨(q' BK192.out 0).trans rfl, (q' BK192.out 1).trans rfl⟩ (fun hHeld => ?_); refine with_tabW snap_Decode.tab10 snap_Decode.bits10 (fun HT_ HW_ => ?_)
  generalize w63.drew = w64 at HO189 BK185 BK192 HB HR197 HR202 hHeld ⊢
  refine pure_ (i := 0) (N := some 35) (v := ?_) (a' := ?_) #[Y,Z,Z,Z,Z,Z,Z,Z,Z,Z,Z,Z,Z,Z] rfl rfl (any_of HT_.out (by kernel_rfl)) (fun _ _ _ h => h) (Or.inl ⟨by rfl, ?_⟩) ?_ ?_
  rotate_left
  · intro w'
    go_simp
    with_reducible rfl
  rotate_left
  · simp only [Act.put, v', x', y', i64_w, i32_w]
    rfl
  refine pure_ (i := 3) (N := some 38) (v := ?_) (a' := ?_) #[Y,Z,Z,Y,Z,Z,Z,Z,Z,Z,Z,Z,Z,Z] rfl rfl (any_of HT_.out (by kernel_rfl)) (fun _ _ _ h => h) (Or.inl ⟨by rfl, ?_⟩) ?_ ?_
  rotate_left
  · intro w'
    go_simp
    with_reducible rfl
  rotate_left
  · simp only [Act.put, v', x', y', i64_w, i32_w]
    rfl
  refine pure_ (i := 7) (N := some 42) (v := ?_) (a' := ?_) #[Y,Z,Z,Y,Z,Z,Z,Y,Z,Z,Z,Z,Z,Z] rfl rfl (any_of HT_.out (by kernel_rfl)) (fun _ _ _ h => h) (Or.inl ⟨by rfl, ?_⟩) ?_ ?_
  rotate_left
  · intro w'
    go_simp
    with_reducible rfl
  rotate_left
  · simp only [Act.put, v', x', y', i64_w, i32_w]
    rfl
  refine take_ (i := 1) (N := some 36) (v := ?_) (a' := ?_) #[Y,Y,Z,Y,Z,Z,Z,Y,Z,Z,Z,Z,Z,Z] rfl rfl (take_ofW HT_.out HW_.out (by kernel_rfl)) (fun _ _ _ h => h) (Or.inl ⟨by rfl, ?_⟩) hHeld ?_ ?_
  rotate_left
  · rintro w' ⟨s0, s1⟩
    go_simp
    with_reducible rfl
  rotate_left
  · simp only [Act.put, v', x', y', i64_w, i32_w]
    rfl
  refine take_ (i := 4) (N := some 39) (v := ?_) (a' := ?_) #[Y,Y,Z,Y,Y,Z,Z,Y,Z,Z,Z,Z,Z,Z] rfl rfl (take_ofW HT_.out HW_.out (by kernel_rfl)) (fun _ _ _ h => h) (Or.inl ⟨by rfl, ?_⟩) hHeld ?_ ?_
  rotate_left
  · rintro w' ⟨s0, s1⟩
    go_simp
    with_reducible rfl
  rotate_left
  · simp only [Act.put, v', x', y', i64_w, i32_w]
    rfl
  refine pure_ (i := 5) (N := some 40) (v := ?_) (a' := ?_) #[Y,Y,Z,Y,Y,Y,Z,Y,Z,Z,Z,Z,Z,Z] rfl rfl (any_of HT_.out (by kernel_rfl)) (fun _ _ _ h => h) (Or.inl ⟨by rfl, ?_⟩) ?_ ?_
  rotate_left
  · intro w'
    go_simp
    with_reducible rfl
  rotate_left
  · simp only [Act.put, v', x', y', i64_w, i32_w]
    rfl
  refine take_ (i := 8) (N := some 43) (v := ?_) (a' := ?_) #[Y,Y,Z,Y,Y,Y,Z,Y,Y,Z,Z,Z,Z,Z] rfl rfl (take_ofW HT_.out HW_.out (by kernel_rfl)) (fun _ _ _ h => h) (Or.inl ⟨by rfl, ?_⟩) hHeld ?_ ?_
  rotate_left
  · rintro w' ⟨s0, s1⟩
    go_simp
    with_reducible rfl
  rotate_left
  · simp only [Act.put, v', x', y', i64_w, i32_w]
    rfl
  refine pure_ (i := 9) (N := some 44) (v := ?_) (a' := ?_) #[Y,Y,Z,Y,Y,Y,Z,Y,Y,Y,Z,Z,Z,Z] rfl rfl (any_of HT_.out (by kernel_rfl)) (fun _ _ _ h => h) (Or.inl ⟨by rfl, ?_⟩) ?_ ?_
  rotate_left
  · intro w'
    go_simp
    with_reducible rfl
  rotate_left
  · simp only [Act.put, v', x', y', i64_w, i32_w]
    rfl
  refine join_ (σ := Value × Nat) 1 #[Y,Y,Y,Y,Y,Y,Y,Y,Y,Y,Y,Y,Y,Z] (fun s_ => [(37, .int .i64 t193), (41, .int .i64 t198), (45, s_.1), (7, .pointer (some ⟨s_.2, 0, none⟩)), (46, .agg #[.int .i64 t193, .int .i64 t198, s_.1])]) (fun s_ w' => (w'.cell? ⟨gb192, 0, none⟩ = some (.int .i64 t186) ∧ w'.cell? ⟨gb192, 1, none⟩ = some (.slice Ao62 t187.length co62)) ∧ (Kd.R (Kd.int .u8) 5 w' w.heap.size (fun k_ => some k_ ≠ (s_.1 : Value).ownBlock) (.slice Ao62 t187.length co62) t187) ∧ (Kd.R (Kd.int .u8) 5 w' w.heap.size (fun k_ => some k_ ≠ (.slice Ao62 t187.length co62 : Value).ownBlock) s_.1 t203) ∧ (w'.heap[gb185]? = some (.cells #[.int .i64 0, .int .i64 0, .slice none 0 0] 25 (0, 0))) ∧ (w'.heap[gb192]? = some (.cells #[.int .i64 t186, .slice Ao62 t187.length co62] 80 (0, 0))) ∧ (w'.heap[s_.2]? = some (.cells #[.int .i64 0, .int .i64 0, .slice none 0 0] 25 (0, 0))) ∧ (w.heap.size ≤ s_.2) ∧ (w.heap.size ≤ s_.2) ∧ (gb185 ≠ s_.2) ∧ (s_.2 ≠ gb185) ∧ (gb192 ≠ s_.2) ∧ (s_.2 ≠ gb192) ∧ (Below w.heap.size w w')) ?_ ?_
  rotate_left
  · intro hCont
    refine two_ (i := 2) (j := 12) (Ni := some 37) (Nj := some 7) #[Y,Y,Y,Y,Y,Y,Z,Y,Y,Y,Z,Z,Z,Z] #[Y,Y,Z,Y,Y,Y,Z,Y,Y,Y,Z,Z,Y,Z] rfl rfl rfl rfl (two_of HT_.out (by kernel_rfl)) (by decide) (by decide) (fun K hK => ?_) (fun K hK => ?_)
    · skip
      refine goes_ Try.func45 (by kernel_rfl) rfl #[.slice Ao62 t187.length co62] (by rfl) rfl rfl (by (try simp only [z', aa', ab']); first | done | rfl | (simp only [ac', ad']; rfl)) ?_
      with_reducible refine (snap_number.calls k _ _ t187 t193 _ ?side1 ?side2 A14.out).mono ?_
      (case side1 => repeat (first | exact (Kd.R_reads' HO189.out).2.2 | (with_reducible refine k' ?_ _) | (with_reducible refine j' ?_ _) | (with_reducible refine o' ?_)))
      (case side2 => exact (Kd.R_reads' HO189.out).2.1)
      rintro e w67 ⟨rfl, hb⟩
      refine ⟨_, rfl, ?_⟩
      have n0_ := ae' (Kd.R_below (by (with_reducible repeat (first | apply m' | apply l' | apply n')); exact HO189.out) hb)
      have n1_ := ae' (p' (g := gb185) (o := .cells #[.int .i64 0, .int .i64 0, .slice none 0 0] 25 (0, 0)) (by (with_reducible repeat (first | apply c' | apply e' | apply d')); exact BK185.out) hb)
      have n2_ := ae' (p' (g := gb192) (o := .cells #[.int .i64 t186, .slice Ao62 t187.length co62] 80 (0, 0)) (by (with_reducible repeat (first | apply c' | apply e' | apply d')); exact BK192.out) hb)
      have n3_ := ae' (r' (by repeat (first | (with_reducible exact HR197.out) | (with_reducible refine k' ?_ _) | (with_reducible refine j' ?_ _) | (with_reducible refine o' ?_) | exact HR197.out)) hb)
      have n4_ := ae' (r' (by repeat (first | (with_reducible exact HR202.out) | (with_reducible refine k' ?_ _) | (with_reducible refine j' ?_ _) | (with_reducible refine o' ?_) | exact HR202.out)) hb)
      have n5_ := ae' (s' (by repeat (first | (with_reducible first | exact HB.out | apply h' | apply f' | apply g' | refine b' ?_ GE185.out | refine b' ?_ GE192.out) | exact HB.out)) hb)
      clear HO189
      clear BK185
      clear BK192
      clear HR197
      clear HR202
      clear HB
      have HO189 := n0_
      have BK185 := n1_
      have BK192 := n2_
      have HR197 := n3_
      have HR202 := n4_
      have HB := n5_
      clear n0_ n1_ n2_ n3_ n4_ n5_
      (try clear hb)
      (try clear hb2)
      (try clear hk)
      (try clear hi)
      refine hK.out _ _ ⟨(q' BK192.out 0).trans rfl, (q' BK192.out 1).trans rfl⟩ (fun hHeld => ?_)
      clear hK K
      refine norm_ (a' := ?_) ?_ ?_
      rotate_left
      · show Act.put _ (some 37) _ = _
        simp only [Act.put, v', x', y', i64_w, i32_w]
        rfl
      refine two_ (i := 6) (j := 12) (Ni := some 41) (Nj := some 7) #[Y,Y,Y,Y,Y,Y,Y,Y,Y,Y,Z,Z,Z,Z] #[Y,Y,Y,Y,Y,Y,Z,Y,Y,Y,Z,Z,Y,Z] rfl rfl rfl rfl (two_of HT_.out (by kernel_rfl)) (by decide) (by decide) (fun K hK => ?_) (fun K hK => ?_)
      · skip
        refine goes_ Try.func45 (by kernel_rfl) rfl #[.slice A65 y194.length c65] (by rfl) rfl rfl (by (try simp only [z', aa', ab']); first | done | rfl | (simp only [ac', ad']; rfl)) ?_
        with_reducible refine (snap_number.calls k _ _ y194 t198 _ ?side1 ?side2 A16.out).mono ?_
        (case side1 => repeat (first | exact (by repeat (first | (with_reducible exact HR197.out) | (with_reducible refine k' ?_ _) | (with_reducible refine j' ?_ _) | (with_reducible refine o' ?_) | exact HR197.out)) | (with_reducible refine k' ?_ _) | (with_reducible refine j' ?_ _) | (with_reducible refine o' ?_)))
        (case side2 => exact HC197.out)
        rintro e w68 ⟨rfl, hb⟩
        refine ⟨_, rfl, ?_⟩
        have n0_ := ae' (Kd.R_below (by (with_reducible repeat (first | apply m' | apply l' | apply n')); exact HO189.out) hb)
        have n1_ := ae' (p' (g := gb185) (o := .cells #[.int .i64 0, .int .i64 0, .slice none 0 0] 25 (0, 0)) (by (with_reducible repeat (first | apply c' | apply e' | apply d')); exact BK185.out) hb)
        have n2_ := ae' (p' (g := gb192) (o := .cells #[.int .i64 t186, .slice Ao62 t187.length co62] 80 (0, 0)) (by (with_reducible repeat (first | apply c' | apply e' | apply d')); exact BK192.out) hb)
        have n3_ := ae' (r' (by repeat (first | (with_reducible exact HR197.out) | (with_reducible refine k' ?_ _) | (with_reducible refine j' ?_ _) | (with_reducible refine o' ?_) | exact HR197.out)) hb)
        have n4_ := ae' (r' (by repeat (first | (with_reducible exact HR202.out) | (with_reducible refine k' ?_ _) | (with_reducible refine j' ?_ _) | (with_reducible refine o' ?_) | exact HR202.out)) hb)
        have n5_ := ae' (s' (by repeat (first | (with_reducible first | exact HB.out | apply h' | apply f' | apply g' | refine b' ?_ GE185.out | refine b' ?_ GE192.out) | exact HB.out)) hb)
        clear HO189
        clear BK185
        clear BK192
        clear HR197
        clear HR202
        clear HB
        have HO189 := n0_
        have BK185 := n1_
        have BK192 := n2_
        have HR197 := n3_
        have HR202 := n4_
        have HB := n5_
        clear n0_ n1_ n2_ n3_ n4_ n5_
        (try clear hb)
        (try clear hb2)
        (try clear hk)
        (try clear hi)
        refine hK.out _ _ ⟨(q' BK192.out 0).trans rfl, (q' BK192.out 1).trans rfl⟩ (fun hHeld => ?_)
        clear hK K
        refine norm_ (a' := ?_) ?_ ?_
        rotate_left
        · show Act.put _ (some 41) _ = _
          simp only [Act.put, v', x', y', i64_w, i32_w]
          rfl
        refine two_ (i := 10) (j := 12) (Ni := some 45) (Nj := some 7) #[Y,Y,Y,Y,Y,Y,Y,Y,Y,Y,Y,Z,Z,Z] #[Y,Y,Y,Y,Y,Y,Y,Y,Y,Y,Z,Z,Y,Z] rfl rfl rfl rfl (two_of HT_.out (by kernel_rfl)) (by decide) (by decide) (fun K hK => ?_) (fun K hK => ?_)
        · skip
          refine goes_ Try.func46 (by kernel_rfl) rfl #[.slice A66 y199.length c66] (by rfl) rfl rfl (by (try simp only [z', aa', ab']); first | done | rfl | (simp only [ac', ad']; rfl)) ?_
          with_reducible refine (bytes_Clone.calls _ _ y199 t203 _ ?side1 ?side2 A18.out).mono ?_
          (case side1 => repeat (first | exact (by repeat (first | (with_reducible exact HR202.out) | (with_reducible refine k' ?_ _) | (with_reducible refine j' ?_ _) | (with_reducible refine o' ?_) | exact HR202.out)) | (with_reducible refine k' ?_ _) | (with_reducible refine j' ?_ _) | (with_reducible refine o' ?_)))
          (case side2 => exact HC202.out)
          rintro e w69 ⟨v204, rfl, ho0, hb⟩
          refine ⟨_, rfl, ?_⟩
          have n0_ := ae' (Kd.R_elder' (by (with_reducible repeat (first | apply m' | apply l' | apply n')); exact HO189.out) (Kd.R_base ho0) hb)
          have n1_ := ae' (Kd.R_lower (Kd.R_new' ho0 (Kd.R_lt (by (with_reducible repeat (first | apply m' | apply l' | apply n')); exact HO189.out))) (u' (by repeat (first | (with_reducible first | exact HB.out | apply h' | apply f' | apply g' | refine b' ?_ GE185.out | refine b' ?_ GE192.out) | exact HB.out))))
          have n2_ := ae' (p' (g := gb185) (o := .cells #[.int .i64 0, .int .i64 0, .slice none 0 0] 25 (0, 0)) (by (with_reducible repeat (first | apply c' | apply e' | apply d')); exact BK185.out) hb)
          have n3_ := ae' (p' (g := gb192) (o := .cells #[.int .i64 t186, .slice Ao62 t187.length co62] 80 (0, 0)) (by (with_reducible repeat (first | apply c' | apply e' | apply d')); exact BK192.out) hb)
          have n4_ := ae' (r' (by repeat (first | (with_reducible exact HR197.out) | (with_reducible refine k' ?_ _) | (with_reducible refine j' ?_ _) | (with_reducible refine o' ?_) | exact HR197.out)) hb)
          have n5_ := ae' (r' (by repeat (first | (with_reducible exact HR202.out) | (with_reducible refine k' ?_ _) | (with_reducible refine j' ?_ _) | (with_reducible refine o' ?_) | exact HR202.out)) hb)
          have n6_ := ae' (s' (by repeat (first | (with_reducible first | exact HB.out | apply h' | apply f' | apply g' | refine b' ?_ GE185.out | refine b' ?_ GE192.out) | exact HB.out)) hb)
          clear HO189
          clear BK185
          clear BK192
          clear HR197
          clear HR202
          clear HB
          have HO189 := n0_
          have HO205 := n1_
          have BK185 := n2_
          have BK192 := n3_
          have HR197 := n4_
          have HR202 := n5_
          have HB := n6_
          clear n0_ n1_ n2_ n3_ n4_ n5_ n6_
          (try clear hb)
          (try clear hb2)
          (try clear hk)
          (try clear hi)
          (try clear ho0)
          obtain ⟨Ao70, co70, eo70⟩ := Kd.R_slice HO205.out
          (first | subst eo70 | (injection eo70 with f1_ f2_ f3_; have f4_ := f1_.symm; have f5_ := f3_.symm; clear f1_ f2_ f3_; subst f4_; subst f5_))
          refine hK.out _ _ ⟨(q' BK192.out 0).trans rfl, (q' BK192.out 1).trans rfl⟩ (fun hHeld => ?_)
          clear hK K
          refine norm_ (a' := ?_) ?_ ?_
          rotate_left
          · show Act.put _ (some 45) _ = _
            simp only [Act.put, v', x', y', i64_w, i32_w]
            rfl
          refine pure_ (i := 11) (N := some 46) (v := ?_) (a' := ?_) #[Y,Y,Y,Y,Y,Y,Y,Y,Y,Y,Y,Y,Z,Z] rfl rfl (any_of HT_.out (by kernel_rfl)) (fun _ _ _ h => h) (Or.inl ⟨by rfl, ?_⟩) ?_ ?_
          rotate_left
          · intro w'
            go_simp
            with_reducible rfl
          rotate_left
          · simp only [Act.put, v', x', y', i64_w, i32_w]
            rfl
          refine one_ (i := 12) (N := some 7) #[Y,Y,Y,Y,Y,Y,Y,Y,Y,Y,Y,Y,Y,Z] rfl rfl (one_of HT_.out (by kernel_rfl)) (by decide) (fun K hK => ?_)
          refine box_step ?hg (N := 7) ?hd (cs := #[.int .i64 0, .int .i64 0, .slice none 0 0]) (t := 25) ?hr ?_; (case hd => rfl); (case hg => rfl); (case hr => first | (go_simp; done) | (go_simp; rfl))
          intro gb206 hg w71 hbox hb
          have n0_ := ae' (Kd.R_below (by (with_reducible repeat (first | apply m' | apply l' | apply n')); exact HO189.out) hb)
          have n1_ := ae' (Kd.R_below (by (with_reducible repeat (first | apply m' | apply l' | apply n')); exact HO205.out) hb)
          have n2_ := ae' (p' (g := gb185) (o := .cells #[.int .i64 0, .int .i64 0, .slice none 0 0] 25 (0, 0)) (by (with_reducible repeat (first | apply c' | apply e' | apply d')); exact BK185.out) hb)
          have n3_ := ae' (p' (g := gb192) (o := .cells #[.int .i64 t186, .slice Ao62 t187.length co62] 80 (0, 0)) (by (with_reducible repeat (first | apply c' | apply e' | apply d')); exact BK192.out) hb)
          have n4_ := ae' (r' (by repeat (first | (with_reducible exact HR197.out) | (with_reducible refine k' ?_ _) | (with_reducible refine j' ?_ _) | (with_reducible refine o' ?_) | exact HR197.out)) hb)
          have n5_ := ae' (r' (by repeat (first | (with_reducible exact HR202.out) | (with_reducible refine k' ?_ _) | (with_reducible refine j' ?_ _) | (with_reducible refine o' ?_) | exact HR202.out)) hb)
          have n6_ := ae' (s' (by repeat (first | (with_reducible first | exact HB.out | apply h' | apply f' | apply g' | refine b' ?_ GE185.out | refine b' ?_ GE192.out) | exact HB.out)) hb)
          have n7_ := ae' (hbox)
          have n8_ := ae' ((by rw [hg]; exact (u' (by repeat (first | (with_reducible first | exact HB.out | apply h' | apply f' | apply g' | refine b' ?_ GE185.out | refine b' ?_ GE192.out) | exact HB.out))) : w.heap.size ≤ gb206))
          have n9_ := ae' ((by rw [hg]; exact (u' (by repeat (first | (with_reducible first | exact HB.out | apply h' | apply f' | apply g' | refine b' ?_ GE185.out | refine b' ?_ GE192.out) | exact HB.out))) : w.heap.size ≤ gb206))
          have n10_ := ae' ((by rw [hg]; exact Nat.ne_of_lt (blk_lt (g := gb185) (o := .cells #[.int .i64 0, .int .i64 0, .slice none 0 0] 25 (0, 0)) (by (with_reducible repeat (first | apply c' | apply e' | apply d')); exact BK185.out)) : gb185 ≠ gb206))
          have n11_ := ae' ((by rw [hg]; exact Nat.ne_of_gt (blk_lt (g := gb185) (o := .cells #[.int .i64 0, .int .i64 0, .slice none 0 0] 25 (0, 0)) (by (with_reducible repeat (first | apply c' | apply e' | apply d')); exact BK185.out)) : gb206 ≠ gb185))
          have n12_ := ae' ((by rw [hg]; exact Nat.ne_of_lt (blk_lt (g := gb192) (o := .cells #[.int .i64 t186, .slice Ao62 t187.length co62] 80 (0, 0)) (by (with_reducible repeat (first | apply c' | apply e' | apply d')); exact BK192.out)) : gb192 ≠ gb206))
          have n13_ := ae' ((by rw [hg]; exact Nat.ne_of_gt (blk_lt (g := gb192) (o := .cells #[.int .i64 t186, .slice Ao62 t187.length co62] 80 (0, 0)) (by (with_reducible repeat (first | apply c' | apply e' | apply d')); exact BK192.out)) : gb206 ≠ gb192))
          clear HO189
          clear HO205
          clear BK185
          clear BK192
          clear HR197
          clear HR202
          clear HB
          have HO189 := n0_
          have HO205 := n1_
          have BK185 := n2_
          have BK192 := n3_
          have HR197 := n4_
          have HR202 := n5_
          have HB := n6_
          have BK206 := n7_
          have GW206 := n8_
          have GE206 := n9_
          have NB185_206 := n10_
          have NB206_185 := n11_
          have NB192_206 := n12_
          have NB206_192 := n13_
          clear n0_ n1_ n2_ n3_ n4_ n5_ n6_ n7_ n8_ n9_ n10_ n11_ n12_ n13_
          clear hb hbox hg
          refine hK.out _ _ ⟨(q' BK192.out 0).trans rfl, (q' BK192.out 1).trans rfl⟩ (fun hHeld => ?_)
          clear hK K
          refine norm_ (a' := ?_) ?_ ?_
          rotate_left
          · show Act.put _ (some 7) _ = _
            simp only [Act.put, v', x', y', i64_w, i32_w]
            rfl
          exact norm_ (by simp only [putAll, Act.put, v', x', y']) (hCont (.slice Ao70 t203.length co70, gb206) _ ⟨hHeld, (by (with_reducible repeat (first | apply m' | apply l' | apply n')); exact Kd.R_mono HO189.out (fun _ hk => hk.2)), (by (with_reducible repeat (first | apply m' | apply l' | apply n')); exact Kd.R_mono HO205.out (fun _ hk => hk.2)), (by (with_reducible repeat (first | apply c' | apply e' | apply d')); exact BK185.out), (by (with_reducible repeat (first | apply c' | apply e' | apply d')); exact BK192.out), (by (with_reducible repeat (first | apply c' | apply e' | apply d')); exact BK206.out), GW206.out, GE206.out, NB185_206.out, NB206_185.out, NB192_206.out, NB206_192.out, (by repeat (first | (with_reducible first | exact HB.out | apply h' | apply f' | apply g' | refine b' ?_ GE185.out | refine b' ?_ GE192.out | refine b' ?_ GE206.out) | exact HB.out))⟩)
        · skip
          refine box_step ?hg (N := 7) ?hd (cs := #[.int .i64 0, .int .i64 0, .slice none 0 0]) (t := 25) ?hr ?_; (case hd => rfl); (case hg => rfl); (case hr => first | (go_simp; done) | (go_simp; rfl))
          intro gb206 hg w69 hbox hb
          have n0_ := ae' (Kd.R_below (by (with_reducible repeat (first | apply m' | apply l' | apply n')); exact HO189.out) hb)
          have n1_ := ae' (p' (g := gb185) (o := .cells #[.int .i64 0, .int .i64 0, .slice none 0 0] 25 (0, 0)) (by (with_reducible repeat (first | apply c' | apply e' | apply d')); exact BK185.out) hb)
          have n2_ := ae' (p' (g := gb192) (o := .cells #[.int .i64 t186, .slice Ao62 t187.length co62] 80 (0, 0)) (by (with_reducible repeat (first | apply c' | apply e' | apply d')); exact BK192.out) hb)
          have n3_ := ae' (r' (by repeat (first | (with_reducible exact HR197.out) | (with_reducible refine k' ?_ _) | (with_reducible refine j' ?_ _) | (with_reducible refine o' ?_) | exact HR197.out)) hb)
          have n4_ := ae' (r' (by repeat (first | (with_reducible exact HR202.out) | (with_reducible refine k' ?_ _) | (with_reducible refine j' ?_ _) | (with_reducible refine o' ?_) | exact HR202.out)) hb)
          have n5_ := ae' (s' (by repeat (first | (with_reducible first | exact HB.out | apply h' | apply f' | apply g' | refine b' ?_ GE185.out | refine b' ?_ GE192.out) | exact HB.out)) hb)
          have n6_ := ae' (hbox)
          have n7_ := ae' ((by rw [hg]; exact (u' (by repeat (first | (with_reducible first | exact HB.out | apply h' | apply f' | apply g' | refine b' ?_ GE185.out | refine b' ?_ GE192.out) | exact HB.out))) : w.heap.size ≤ gb206))
          have n8_ := ae' ((by rw [hg]; exact (u' (by repeat (first | (with_reducible first | exact HB.out | apply h' | apply f' | apply g' | refine b' ?_ GE185.out | refine b' ?_ GE192.out) | exact HB.out))) : w.heap.size ≤ gb206))
          have n9_ := ae' ((by rw [hg]; exact Nat.ne_of_lt (blk_lt (g := gb185) (o := .cells #[.int .i64 0, .int .i64 0, .slice none 0 0] 25 (0, 0)) (by (with_reducible repeat (first | apply c' | apply e' | apply d')); exact BK185.out)) : gb185 ≠ gb206))
          have n10_ := ae' ((by rw [hg]; exact Nat.ne_of_gt (blk_lt (g := gb185) (o := .cells #[.int .i64 0, .int .i64 0, .slice none 0 0] 25 (0, 0)) (by (with_reducible repeat (first | apply c' | apply e' | apply d')); exact BK185.out)) : gb206 ≠ gb185))
          have n11_ := ae' ((by rw [hg]; exact Nat.ne_of_lt (blk_lt (g := gb192) (o := .cells #[.int .i64 t186, .slice Ao62 t187.length co62] 80 (0, 0)) (by (with_reducible repeat (first | apply c' | apply e' | apply d')); exact BK192.out)) : gb192 ≠ gb206))
          have n12_ := ae' ((by rw [hg]; exact Nat.ne_of_gt (blk_lt (g := gb192) (o := .cells #[.int .i64 t186, .slice Ao62 t187.length co62] 80 (0, 0)) (by (with_reducible repeat (first | apply c' | apply e' | apply d')); exact BK192.out)) : gb206 ≠ gb192))
          clear HO189
          clear BK185
          clear BK192
          clear HR197
          clear HR202
          clear HB
          have HO189 := n0_
          have BK185 := n1_
          have BK192 := n2_
          have HR197 := n3_
          have HR202 := n4_
          have HB := n5_
          have BK206 := n6_
          have GW206 := n7_
          have GE206 := n8_
          have NB185_206 := n9_
          have NB206_185 := n10_
          have NB192_206 := n11_
          have NB206_192 := n12_
          clear n0_ n1_ n2_ n3_ n4_ n5_ n6_ n7_ n8_ n9_ n10_ n11_ n12_
          clear hb hbox hg
          refine hK.out _ _ ⟨(q' BK192.out 0).trans rfl, (q' BK192.out 1).trans rfl⟩ (fun hHeld => ?_)
          clear hK K
          refine norm_ (a' := ?_) ?_ ?_
          rotate_left
          · show Act.put _ (some 7) _ = _
            simp only [Act.put, v', x', y', i64_w, i32_w]
            rfl
          refine one_ (i := 10) (N := some 45) #[Y,Y,Y,Y,Y,Y,Y,Y,Y,Y,Y,Z,Y,Z] rfl rfl (one_of HT_.out (by kernel_rfl)) (by decide) (fun K hK => ?_)
          refine goes_ Try.func46 (by kernel_rfl) rfl #[.slice A66 y199.length c66] (by rfl) rfl rfl (by (try simp only [z', aa', ab']); first | done | rfl | (simp only [ac', ad']; rfl)) ?_
          with_reducible refine (bytes_Clone.calls _ _ y199 t203 _ ?side1 ?side2 A18.out).mono ?_
          (case side1 => repeat (first | exact (by repeat (first | (with_reducible exact HR202.out) | (with_reducible refine k' ?_ _) | (with_reducible refine j' ?_ _) | (with_reducible refine o' ?_) | exact HR202.out)) | (with_reducible refine k' ?_ _) | (with_reducible refine j' ?_ _) | (with_reducible refine o' ?_)))
          (case side2 => exact HC202.out)
          rintro e w70 ⟨v204, rfl, ho0, hb⟩
          refine ⟨_, rfl, ?_⟩
          have n0_ := ae' (Kd.R_elder' (by (with_reducible repeat (first | apply m' | apply l' | apply n')); exact HO189.out) (Kd.R_base ho0) hb)
          have n1_ := ae' (Kd.R_lower (Kd.R_new' ho0 (Kd.R_lt (by (with_reducible repeat (first | apply m' | apply l' | apply n')); exact HO189.out))) (u' (by repeat (first | (with_reducible first | exact HB.out | apply h' | apply f' | apply g' | refine b' ?_ GE185.out | refine b' ?_ GE192.out | refine b' ?_ GE206.out) | exact HB.out))))
          have n2_ := ae' (p' (g := gb185) (o := .cells #[.int .i64 0, .int .i64 0, .slice none 0 0] 25 (0, 0)) (by (with_reducible repeat (first | apply c' | apply e' | apply d')); exact BK185.out) hb)
          have n3_ := ae' (p' (g := gb192) (o := .cells #[.int .i64 t186, .slice Ao62 t187.length co62] 80 (0, 0)) (by (with_reducible repeat (first | apply c' | apply e' | apply d')); exact BK192.out) hb)
          have n4_ := ae' (r' (by repeat (first | (with_reducible exact HR197.out) | (with_reducible refine k' ?_ _) | (with_reducible refine j' ?_ _) | (with_reducible refine o' ?_) | exact HR197.out)) hb)
          have n5_ := ae' (r' (by repeat (first | (with_reducible exact HR202.out) | (with_reducible refine k' ?_ _) | (with_reducible refine j' ?_ _) | (with_reducible refine o' ?_) | exact HR202.out)) hb)
          have n6_ := ae' (p' (g := gb206) (o := .cells #[.int .i64 0, .int .i64 0, .slice none 0 0] 25 (0, 0)) (by (with_reducible repeat (first | apply c' | apply e' | apply d')); exact BK206.out) hb)
          have n7_ := ae' (s' (by repeat (first | (with_reducible first | exact HB.out | apply h' | apply f' | apply g' | refine b' ?_ GE185.out | refine b' ?_ GE192.out | refine b' ?_ GE206.out) | exact HB.out)) hb)
          clear HO189
          clear BK185
          clear BK192
          clear HR197
          clear HR202
          clear BK206
          clear HB
          have HO189 := n0_
          have HO205 := n1_
          have BK185 := n2_
          have BK192 := n3_
          have HR197 := n4_
          have HR202 := n5_
          have BK206 := n6_
          have HB := n7_
          clear n0_ n1_ n2_ n3_ n4_ n5_ n6_ n7_
          (try clear hb)
          (try clear hb2)
          (try clear hk)
          (try clear hi)
          (try clear ho0)
          obtain ⟨Ao71, co71, eo71⟩ := Kd.R_slice HO205.out
          (first | subst eo71 | (injection eo71 with f1_ f2_ f3_; have f4_ := f1_.symm; have f5_ := f3_.symm; clear f1_ f2_ f3_; subst f4_; subst f5_))
          refine hK.out _ _ ⟨(q' BK192.out 0).trans rfl, (q' BK192.out 1).trans rfl⟩ (fun hHeld => ?_)
          clear hK K
          refine norm_ (a' := ?_) ?_ ?_
          rotate_left
          · show Act.put _ (some 45) _ = _
            simp only [Act.put, v', x', y', i64_w, i32_w]
            rfl
          refine pure_ (i := 11) (N := some 46) (v := ?_) (a' := ?_) #[Y,Y,Y,Y,Y,Y,Y,Y,Y,Y,Y,Y,Y,Z] rfl rfl (any_of HT_.out (by kernel_rfl)) (fun _ _ _ h => h) (Or.inl ⟨by rfl, ?_⟩) ?_ ?_
          rotate_left
          · intro w'
            go_simp
            with_reducible rfl
          rotate_left
          · simp only [Act.put, v', x', y', i64_w, i32_w]
            rfl
          exact norm_ (by simp only [putAll, Act.put, v', x', y']) (hCont (.slice Ao71 t203.length co71, gb206) _ ⟨hHeld, (by (with_reducible repeat (first | apply m' | apply l' | apply n')); exact Kd.R_mono HO189.out (fun _ hk => hk.2)), (by (with_reducible repeat (first | apply m' | apply l' | apply n')); exact Kd.R_mono HO205.out (fun _ hk => hk.2)), (by (with_reducible repeat (first | apply c' | apply e' | apply d')); exact BK185.out), (by (with_reducible repeat (first | apply c' | apply e' | apply d')); exact BK192.out), (by (with_reducible repeat (first | apply c' | apply e' | apply d')); exact BK206.out), GW206.out, GE206.out, NB185_206.out, NB206_185.out, NB192_206.out, NB206_192.out, (by repeat (first | (with_reducible first | exact HB.out | apply h' | apply f' | apply g' | refine b' ?_ GE185.out | refine b' ?_ GE192.out | refine b' ?_ GE206.out) | exact HB.out))⟩)
      · skip
        refine box_step ?hg (N := 7) ?hd (cs := #[.int .i64 0, .int .i64 0, .slice none 0 0]) (t := 25) ?hr ?_; (case hd => rfl); (case hg => rfl); (case hr => first | (go_simp; done) | (go_simp; rfl))
        intro gb206 hg w68 hbox hb
        have n0_ := ae' (Kd.R_below (by (with_reducible repeat (first | apply m' | apply l' | apply n')); exact HO189.out) hb)
        have n1_ := ae' (p' (g := gb185) (o := .cells #[.int .i64 0, .int .i64 0, .slice none 0 0] 25 (0, 0)) (by (with_reducible repeat (first | apply c' | apply e' | apply d')); exact BK185.out) hb)
        have n2_ := ae' (p' (g := gb192) (o := .cells #[.int .i64 t186, .slice Ao62 t187.length co62] 80 (0, 0)) (by (with_reducible repeat (first | apply c' | apply e' | apply d')); exact BK192.out) hb)
        have n3_ := ae' (r' (by repeat (first | (with_reducible exact HR197.out) | (with_reducible refine k' ?_ _) | (with_reducible refine j' ?_ _) | (with_reducible refine o' ?_) | exact HR197.out)) hb)
        have n4_ := ae' (r' (by repeat (first | (with_reducible exact HR202.out) | (with_reducible refine k' ?_ _) | (with_reducible refine j' ?_ _) | (with_reducible refine o' ?_) | exact HR202.out)) hb)
        have n5_ := ae' (s' (by repeat (first | (with_reducible first | exact HB.out | apply h' | apply f' | apply g' | refine b' ?_ GE185.out | refine b' ?_ GE192.out) | exact HB.out)) hb)
        have n6_ := ae' (hbox)
        have n7_ := ae' ((by rw [hg]; exact (u' (by repeat (first | (with_reducible first | exact HB.out | apply h' | apply f' | apply g' | refine b' ?_ GE185.out | refine b' ?_ GE192.out) | exact HB.out))) : w.heap.size ≤ gb206))
        have n8_ := ae' ((by rw [hg]; exact (u' (by repeat (first | (with_reducible first | exact HB.out | apply h' | apply f' | apply g' | refine b' ?_ GE185.out | refine b' ?_ GE192.out) | exact HB.out))) : w.heap.size ≤ gb206))
        have n9_ := ae' ((by rw [hg]; exact Nat.ne_of_lt (blk_lt (g := gb185) (o := .cells #[.int .i64 0, .int .i64 0, .slice none 0 0] 25 (0, 0)) (by (with_reducible repeat (first | apply c' | apply e' | apply d')); exact BK185.out)) : gb185 ≠ gb206))
        have n10_ := ae' ((by rw [hg]; exact Nat.ne_of_gt (blk_lt (g := gb185) (o := .cells #[.int .i64 0, .int .i64 0, .slice none 0 0] 25 (0, 0)) (by (with_reducible repeat (first | apply c' | apply e' | apply d')); exact BK185.out)) : gb206 ≠ gb185))
        have n11_ := ae' ((by rw [hg]; exact Nat.ne_of_lt (blk_lt (g := gb192) (o := .cells #[.int .i64 t186, .slice Ao62 t187.length co62] 80 (0, 0)) (by (with_reducible repeat (first | apply c' | apply e' | apply d')); exact BK192.out)) : gb192 ≠ gb206))
        have n12_ := ae' ((by rw [hg]; exact Nat.ne_of_gt (blk_lt (g := gb192) (o := .cells #[.int .i64 t186, .slice Ao62 t187.length co62] 80 (0, 0)) (by (with_reducible repeat (first | apply c' | apply e' | apply d')); exact BK192.out)) : gb206 ≠ gb192))
        clear HO189
        clear BK185
        clear BK192
        clear HR197
        clear HR202
        clear HB
        have HO189 := n0_
        have BK185 := n1_
        have BK192 := n2_
        have HR197 := n3_
        have HR202 := n4_
        have HB := n5_
        have BK206 := n6_
        have GW206 := n7_
        have GE206 := n8_
        have NB185_206 := n9_
        have NB206_185 := n10_
        have NB192_206 := n11_
        have NB206_192 := n12_
        clear n0_ n1_ n2_ n3_ n4_ n5_ n6_ n7_ n8_ n9_ n10_ n11_ n12_
        clear hb hbox hg
        refine hK.out _ _ ⟨(q' BK192.out 0).trans rfl, (q' BK192.out 1).trans rfl⟩ (fun hHeld => ?_)
        clear hK K
        refine norm_ (a' := ?_) ?_ ?_
        rotate_left
        · show Act.put _ (some 7) _ = _
          simp only [Act.put, v', x', y', i64_w, i32_w]
          rfl
        refine one_ (i := 6) (N := some 41) #[Y,Y,Y,Y,Y,Y,Y,Y,Y,Y,Z,Z,Y,Z] rfl rfl (one_of HT_.out (by kernel_rfl)) (by decide) (fun K hK => ?_)
        refine goes_ Try.func45 (by kernel_rfl) rfl #[.slice A65 y194.length c65] (by rfl) rfl rfl (by (try simp only [z', aa', ab']); first | done | rfl | (simp only [ac', ad']; rfl)) ?_
        with_reducible refine (snap_number.calls k _ _ y194 t198 _ ?side1 ?side2 A16.out).mono ?_
        (case side1 => repeat (first | exact (by repeat (first | (with_reducible exact HR197.out) | (with_reducible refine k' ?_ _) | (with_reducible refine j' ?_ _) | (with_reducible refine o' ?_) | exact HR197.out)) | (with_reducible refine k' ?_ _) | (with_reducible refine j' ?_ _) | (with_reducible refine o' ?_)))
        (case side2 => exact HC197.out)
        rintro e w69 ⟨rfl, hb⟩
        refine ⟨_, rfl, ?_⟩
        have n0_ := ae' (Kd.R_below (by (with_reducible repeat (first | apply m' | apply l' | apply n')); exact HO189.out) hb)
        have n1_ := ae' (p' (g := gb185) (o := .cells #[.int .i64 0, .int .i64 0, .slice none 0 0] 25 (0, 0)) (by (with_reducible repeat (first | apply c' | apply e' | apply d')); exact BK185.out) hb)
        have n2_ := ae' (p' (g := gb192) (o := .cells #[.int .i64 t186, .slice Ao62 t187.length co62] 80 (0, 0)) (by (with_reducible repeat (first | apply c' | apply e' | apply d')); exact BK192.out) hb)
        have n3_ := ae' (r' (by repeat (first | (with_reducible exact HR197.out) | (with_reducible refine k' ?_ _) | (with_reducible refine j' ?_ _) | (with_reducible refine o' ?_) | exact HR197.out)) hb)
        have n4_ := ae' (r' (by repeat (first | (with_reducible exact HR202.out) | (with_reducible refine k' ?_ _) | (with_reducible refine j' ?_ _) | (with_reducible refine o' ?_) | exact HR202.out)) hb)
        have n5_ := ae' (p' (g := gb206) (o := .cells #[.int .i64 0, .int .i64 0, .slice none 0 0] 25 (0, 0)) (by (with_reducible repeat (first | apply c' | apply e' | apply d')); exact BK206.out) hb)
        have n6_ := ae' (s' (by repeat (first | (with_reducible first | exact HB.out | apply h' | apply f' | apply g' | refine b' ?_ GE185.out | refine b' ?_ GE192.out | refine b' ?_ GE206.out) | exact HB.out)) hb)
        clear HO189
        clear BK185
        clear BK192
        clear HR197
        clear HR202
        clear BK206
        clear HB
        have HO189 := n0_
        have BK185 := n1_
        have BK192 := n2_
        have HR197 := n3_
        have HR202 := n4_
        have BK206 := n5_
        have HB := n6_
        clear n0_ n1_ n2_ n3_ n4_ n5_ n6_
        (try clear hb)
        (try clear hb2)
        (try clear hk)
        (try clear hi)
        refine hK.out _ _ ⟨(q' BK192.out 0).trans rfl, (q' BK192.out 1).trans rfl⟩ (fun hHeld => ?_)
        clear hK K
        refine norm_ (a' := ?_) ?_ ?_
        rotate_left
        · show Act.put _ (some 41) _ = _
          simp only [Act.put, v', x', y', i64_w, i32_w]
          rfl
        refine one_ (i := 10) (N := some 45) #[Y,Y,Y,Y,Y,Y,Y,Y,Y,Y,Y,Z,Y,Z] rfl rfl (one_of HT_.out (by kernel_rfl)) (by decide) (fun K hK => ?_)
        refine goes_ Try.func46 (by kernel_rfl) rfl #[.slice A66 y199.length c66] (by rfl) rfl rfl (by (try simp only [z', aa', ab']); first | done | rfl | (simp only [ac', ad']; rfl)) ?_
        with_reducible refine (bytes_Clone.calls _ _ y199 t203 _ ?side1 ?side2 A18.out).mono ?_
        (case side1 => repeat (first | exact (by repeat (first | (with_reducible exact HR202.out) | (with_reducible refine k' ?_ _) | (with_reducible refine j' ?_ _) | (with_reducible refine o' ?_) | exact HR202.out)) | (with_reducible refine k' ?_ _) | (with_reducible refine j' ?_ _) | (with_reducible refine o' ?_)))
        (case side2 => exact HC202.out)
        rintro e w70 ⟨v204, rfl, ho0, hb⟩
        refine ⟨_, rfl, ?_⟩
        have n0_ := ae' (Kd.R_elder' (by (with_reducible repeat (first | apply m' | apply l' | apply n')); exact HO189.out) (Kd.R_base ho0) hb)
        have n1_ := ae' (Kd.R_lower (Kd.R_new' ho0 (Kd.R_lt (by (with_reducible repeat (first | apply m' | apply l' | apply n')); exact HO189.out))) (u' (by repeat (first | (with_reducible first | exact HB.out | apply h' | apply f' | apply g' | refine b' ?_ GE185.out | refine b' ?_ GE192.out | refine b' ?_ GE206.out) | exact HB.out))))
        have n2_ := ae' (p' (g := gb185) (o := .cells #[.int .i64 0, .int .i64 0, .slice none 0 0] 25 (0, 0)) (by (with_reducible repeat (first | apply c' | apply e' | apply d')); exact BK185.out) hb)
        have n3_ := ae' (p' (g := gb192) (o := .cells #[.int .i64 t186, .slice Ao62 t187.length co62] 80 (0, 0)) (by (with_reducible repeat (first | apply c' | apply e' | apply d')); exact BK192.out) hb)
        have n4_ := ae' (r' (by repeat (first | (with_reducible exact HR197.out) | (with_reducible refine k' ?_ _) | (with_reducible refine j' ?_ _) | (with_reducible refine o' ?_) | exact HR197.out)) hb)
        have n5_ := ae' (r' (by repeat (first | (with_reducible exact HR202.out) | (with_reducible refine k' ?_ _) | (with_reducible refine j' ?_ _) | (with_reducible refine o' ?_) | exact HR202.out)) hb)
        have n6_ := ae' (p' (g := gb206) (o := .cells #[.int .i64 0, .int .i64 0, .slice none 0 0] 25 (0, 0)) (by (with_reducible repeat (first | apply c' | apply e' | apply d')); exact BK206.out) hb)
        have n7_ := ae' (s' (by repeat (first | (with_reducible first | exact HB.out | apply h' | apply f' | apply g' | refine b' ?_ GE185.out | refine b' ?_ GE192.out | refine b' ?_ GE206.out) | exact HB.out)) hb)
        clear HO189
        clear BK185
        clear BK192
        clear HR197
        clear HR202
        clear BK206
        clear HB
        have HO189 := n0_
        have HO205 := n1_
        have BK185 := n2_
        have BK192 := n3_
        have HR197 := n4_
        have HR202 := n5_
        have BK206 := n6_
        have HB := n7_
        clear n0_ n1_ n2_ n3_ n4_ n5_ n6_ n7_
        (try clear hb)
        (try clear hb2)
        (try clear hk)
        (try clear hi)
        (try clear ho0)
        obtain ⟨Ao71, co71, eo71⟩ := Kd.R_slice HO205.out
        (first | subst eo71 | (injection eo71 with f1_ f2_ f3_; have f4_ := f1_.symm; have f5_ := f3_.symm; clear f1_ f2_ f3_; subst f4_; subst f5_))
        refine hK.out _ _ ⟨(q' BK192.out 0).trans rfl, (q' BK192.out 1).trans rfl⟩ (fun hHeld => ?_)
        clear hK K
        refine norm_ (a' := ?_) ?_ ?_
        rotate_left
        · show Act.put _ (some 45) _ = _
          simp only [Act.put, v', x', y', i64_w, i32_w]
          rfl
        refine pure_ (i := 11) (N := some 46) (v := ?_) (a' := ?_) #[Y,Y,Y,Y,Y,Y,Y,Y,Y,Y,Y,Y,Y,Z] rfl rfl (any_of HT_.out (by kernel_rfl)) (fun _ _ _ h => h) (Or.inl ⟨by rfl, ?_⟩) ?_ ?_
        rotate_left
        · intro w'
          go_simp
          with_reducible rfl
        rotate_left
        · simp only [Act.put, v', x', y', i64_w, i32_w]
          rfl
        exact norm_ (by simp only [putAll, Act.put, v', x', y']) (hCont (.slice Ao71 t203.length co71, gb206) _ ⟨hHeld, (by (with_reducible repeat (first | apply m' | apply l' | apply n')); exact Kd.R_mono HO189.out (fun _ hk => hk.2)), (by (with_reducible repeat (first | apply m' | apply l' | apply n')); exact Kd.R_mono HO205.out (fun _ hk => hk.2)), (by (with_reducible repeat (first | apply c' | apply e' | apply d')); exact BK185.out), (by (with_reducible repeat (first | apply c' | apply e' | apply d')); exact BK192.out), (by (with_reducible repeat (first | apply c' | apply e' | apply d')); exact BK206.out), GW206.out, GE206.out, NB185_206.out, NB206_185.out, NB192_206.out, NB206_192.out, (by repeat (first | (with_reducible first | exact HB.out | apply h' | apply f' | apply g' | refine b' ?_ GE185.out | refine b' ?_ GE192.out | refine b' ?_ GE206.out) | exact HB.out))⟩)
    · skip
      refine box_step ?hg (N := 7) ?hd (cs := #[.int .i64 0, .int .i64 0, .slice none 0 0]) (t := 25) ?hr ?_; (case hd => rfl); (case hg => rfl); (case hr => first | (go_simp; done) | (go_simp; rfl))
      intro gb206 hg w67 hbox hb
      have n0_ := ae' (Kd.R_below (by (with_reducible repeat (first | apply m' | apply l' | apply n')); exact HO189.out) hb)
      have n1_ := ae' (p' (g := gb185) (o := .cells #[.int .i64 0, .int .i64 0, .slice none 0 0] 25 (0, 0)) (by (with_reducible repeat (first | apply c' | apply e' | apply d')); exact BK185.out) hb)
      have n2_ := ae' (p' (g := gb192) (o := .cells #[.int .i64 t186, .slice Ao62 t187.length co62] 80 (0, 0)) (by (with_reducible repeat (first | apply c' | apply e' | apply d')); exact BK192.out) hb)
      have n3_ := ae' (r' (by repeat (first | (with_reducible exact HR197.out) | (with_reducible refine k' ?_ _) | (with_reducible refine j' ?_ _) | (with_reducible refine o' ?_) | exact HR197.out)) hb)
      have n4_ := ae' (r' (by repeat (first | (with_reducible exact HR202.out) | (with_reducible refine k' ?_ _) | (with_reducible refine j' ?_ _) | (with_reducible refine o' ?_) | exact HR202.out)) hb)
      have n5_ := ae' (s' (by repeat (first | (with_reducible first | exact HB.out | apply h' | apply f' | apply g' | refine b' ?_ GE185.out | refine b' ?_ GE192.out) | exact HB.out)) hb)
      have n6_ := ae' (hbox)
      have n7_ := ae' ((by rw [hg]; exact (u' (by repeat (first | (with_reducible first | exact HB.out | apply h' | apply f' | apply g' | refine b' ?_ GE185.out | refine b' ?_ GE192.out) | exact HB.out))) : w.heap.size ≤ gb206))
      have n8_ := ae' ((by rw [hg]; exact (u' (by repeat (first | (with_reducible first | exact HB.out | apply h' | apply f' | apply g' | refine b' ?_ GE185.out | refine b' ?_ GE192.out) | exact HB.out))) : w.heap.size ≤ gb206))
      have n9_ := ae' ((by rw [hg]; exact Nat.ne_of_lt (blk_lt (g := gb185) (o := .cells #[.int .i64 0, .int .i64 0, .slice none 0 0] 25 (0, 0)) (by (with_reducible repeat (first | apply c' | apply e' | apply d')); exact BK185.out)) : gb185 ≠ gb206))
      have n10_ := ae' ((by rw [hg]; exact Nat.ne_of_gt (blk_lt (g := gb185) (o := .cells #[.int .i64 0, .int .i64 0, .slice none 0 0] 25 (0, 0)) (by (with_reducible repeat (first | apply c' | apply e' | apply d')); exact BK185.out)) : gb206 ≠ gb185))
      have n11_ := ae' ((by rw [hg]; exact Nat.ne_of_lt (blk_lt (g := gb192) (o := .cells #[.int .i64 t186, .slice Ao62 t187.length co62] 80 (0, 0)) (by (with_reducible repeat (first | apply c' | apply e' | apply d')); exact BK192.out)) : gb192 ≠ gb206))
      have n12_ := ae' ((by rw [hg]; exact Nat.ne_of_gt (blk_lt (g := gb192) (o := .cells #[.int .i64 t186, .slice Ao62 t187.length co62] 80 (0, 0)) (by (with_reducible repeat (first | apply c' | apply e' | apply d')); exact BK192.out)) : gb206 ≠ gb192))
      clear HO189
      clear BK185
      clear BK192
      clear HR197
      clear HR202
      clear HB
      have HO189 := n0_
      have BK185 := n1_
      have BK192 := n2_
      have HR197 := n3_
      have HR202 := n4_
      have HB := n5_
      have BK206 := n6_
      have GW206 := n7_
      have GE206 := n8_
      have NB185_206 := n9_
      have NB206_185 := n10_
      have NB192_206 := n11_
      have NB206_192 := n12_
      clear n0_ n1_ n2_ n3_ n4_ n5_ n6_ n7_ n8_ n9_ n10_ n11_ n12_
      clear hb hbox hg
      refine hK.out _ _ ⟨(q' BK192.out 0).trans rfl, (q' BK192.out 1).trans rfl⟩ (fun hHeld => ?_)
      clear hK K
      refine norm_ (a' := ?_) ?_ ?_
      rotate_left
      · show Act.put _ (some 7) _ = _
        simp only [Act.put, v', x', y', i64_w, i32_w]
        rfl
      refine one_ (i := 2) (N := some 37) #[Y,Y,Y,Y,Y,Y,Z,Y,Y,Y,Z,Z,Y,Z] rfl rfl (one_of HT_.out (by kernel_rfl)) (by decide) (fun K hK => ?_)
      refine goes_ Try.func45 (by kernel_rfl) rfl #[.slice Ao62 t187.length co62] (by rfl) rfl rfl (by (try simp only [z', aa', ab']); first | done | rfl | (simp only [ac', ad']; rfl)) ?_
      with_reducible refine (snap_number.calls k _ _ t187 t193 _ ?side1 ?side2 A14.out).mono ?_
      (case side1 => repeat (first | exact (Kd.R_reads' HO189.out).2.2 | (with_reducible refine k' ?_ _) | (with_reducible refine j' ?_ _) | (with_reducible refine o' ?_)))
      (case side2 => exact (Kd.R_reads' HO189.out).2.1)
      rintro e w68 ⟨rfl, hb⟩
      refine ⟨_, rfl, ?_⟩
      have n0_ := ae' (Kd.R_below (by (with_reducible repeat (first | apply m' | apply l' | apply n')); exact HO189.out) hb)
      have n1_ := ae' (p' (g := gb185) (o := .cells #[.int .i64 0, .int .i64 0, .slice none 0 0] 25 (0, 0)) (by (with_reducible repeat (first | apply c' | apply e' | apply d')); exact BK185.out) hb)
      have n2_ := ae' (p' (g := gb192) (o := .cells #[.int .i64 t186, .slice Ao62 t187.length co62] 80 (0, 0)) (by (with_reducible repeat (first | apply c' | apply e' | apply d')); exact BK192.out) hb)
      have n3_ := ae' (r' (by repeat (first | (with_reducible exact HR197.out) | (with_reducible refine k' ?_ _) | (with_reducible refine j' ?_ _) | (with_reducible refine o' ?_) | exact HR197.out)) hb)
      have n4_ := ae' (r' (by repeat (first | (with_reducible exact HR202.out) | (with_reducible refine k' ?_ _) | (with_reducible refine j' ?_ _) | (with_reducible refine o' ?_) | exact HR202.out)) hb)
      have n5_ := ae' (p' (g := gb206) (o := .cells #[.int .i64 0, .int .i64 0, .slice none 0 0] 25 (0, 0)) (by (with_reducible repeat (first | apply c' | apply e' | apply d')); exact BK206.out) hb)
      have n6_ := ae' (s' (by repeat (first | (with_reducible first | exact HB.out | apply h' | apply f' | apply g' | refine b' ?_ GE185.out | refine b' ?_ GE192.out | refine b' ?_ GE206.out) | exact HB.out)) hb)
      clear HO189
      clear BK185
      clear BK192
      clear HR197
      clear HR202
      clear BK206
      clear HB
      have HO189 := n0_
      have BK185 := n1_
      have BK192 := n2_
      have HR197 := n3_
      have HR202 := n4_
      have BK206 := n5_
      have HB := n6_
      clear n0_ n1_ n2_ n3_ n4_ n5_ n6_
      (try clear hb)
      (try clear hb2)
      (try clear hk)
      (try clear hi)
      refine hK.out _ _ ⟨(q' BK192.out 0).trans rfl, (q' BK192.out 1).trans rfl⟩ (fun hHeld => ?_)
      clear hK K
      refine norm_ (a' := ?_) ?_ ?_
      rotate_left
      · show Act.put _ (some 37) _ = _
        simp only [Act.put, v', x', y', i64_w, i32_w]
        rfl
      refine one_ (i := 6) (N := some 41) #[Y,Y,Y,Y,Y,Y,Y,Y,Y,Y,Z,Z,Y,Z] rfl rfl (one_of HT_.out (by kernel_rfl)) (by decide) (fun K hK => ?_)
      refine goes_ Try.func45 (by kernel_rfl) rfl #[.slice A65 y194.length c65] (by rfl) rfl rfl (by (try simp only [z', aa', ab']); first | done | rfl | (simp only [ac', ad']; rfl)) ?_
      with_reducible refine (snap_number.calls k _ _ y194 t198 _ ?side1 ?side2 A16.out).mono ?_
      (case side1 => repeat (first | exact (by repeat (first | (with_reducible exact HR197.out) | (with_reducible refine k' ?_ _) | (with_reducible refine j' ?_ _) | (with_reducible refine o' ?_) | exact HR197.out)) | (with_reducible refine k' ?_ _) | (with_reducible refine j' ?_ _) | (with_reducible refine o' ?_)))
      (case side2 => exact HC197.out)
      rintro e w69 ⟨rfl, hb⟩
      refine ⟨_, rfl, ?_⟩
      have n0_ := ae' (Kd.R_below (by (with_reducible repeat (first | apply m' | apply l' | apply n')); exact HO189.out) hb)
      have n1_ := ae' (p' (g := gb185) (o := .cells #[.int .i64 0, .int .i64 0, .slice none 0 0] 25 (0, 0)) (by (with_reducible repeat (first | apply c' | apply e' | apply d')); exact BK185.out) hb)
      have n2_ := ae' (p' (g := gb192) (o := .cells #[.int .i64 t186, .slice Ao62 t187.length co62] 80 (0, 0)) (by (with_reducible repeat (first | apply c' | apply e' | apply d')); exact BK192.out) hb)
      have n3_ := ae' (r' (by repeat (first | (with_reducible exact HR197.out) | (with_reducible refine k' ?_ _) | (with_reducible refine j' ?_ _) | (with_reducible refine o' ?_) | exact HR197.out)) hb)
      have n4_ := ae' (r' (by repeat (first | (with_reducible exact HR202.out) | (with_reducible refine k' ?_ _) | (with_reducible refine j' ?_ _) | (with_reducible refine o' ?_) | exact HR202.out)) hb)
      have n5_ := ae' (p' (g := gb206) (o := .cells #[.int .i64 0, .int .i64 0, .slice none 0 0] 25 (0, 0)) (by (with_reducible repeat (first | apply c' | apply e' | apply d')); exact BK206.out) hb)
      have n6_ := ae' (s' (by repeat (first | (with_reducible first | exact HB.out | apply h' | apply f' | apply g' | refine b' ?_ GE185.out | refine b' ?_ GE192.out | refine b' ?_ GE206.out) | exact HB.out)) hb)
      clear HO189
      clear BK185
      clear BK192
      clear HR197
      clear HR202
      clear BK206
      clear HB
      have HO189 := n0_
      have BK185 := n1_
      have BK192 := n2_
      have HR197 := n3_
      have HR202 := n4_
      have BK206 := n5_
      have HB := n6_
      clear n0_ n1_ n2_ n3_ n4_ n5_ n6_
      (try clear hb)
      (try clear hb2)
      (try clear hk)
      (try clear hi)
      refine hK.out _ _ ⟨(q' BK192.out 0).trans rfl, (q' BK192.out 1).trans rfl⟩ (fun hHeld => ?_)
      clear hK K
      refine norm_ (a' := ?_) ?_ ?_
      rotate_left
      · show Act.put _ (some 41) _ = _
        simp only [Act.put, v', x', y', i64_w, i32_w]
        rfl
      refine one_ (i := 10) (N := some 45) #[Y,Y,Y,Y,Y,Y,Y,Y,Y,Y,Y,Z,Y,Z] rfl rfl (one_of HT_.out (by kernel_rfl)) (by decide) (fun K hK => ?_)
      refine goes_ Try.func46 (by kernel_rfl) rfl #[.slice A66 y199.length c66] (by rfl) rfl rfl (by (try simp only [z', aa', ab']); first | done | rfl | (simp only [ac', ad']; rfl)) ?_
      with_reducible refine (bytes_Clone.calls _ _ y199 t203 _ ?side1 ?side2 A18.out).mono ?_
      (case side1 => repeat (first | exact (by repeat (first | (with_reducible exact HR202.out) | (with_reducible refine k' ?_ _) | (with_reducible refine j' ?_ _) | (with_reducible refine o' ?_) | exact HR202.out)) | (with_reducible refine k' ?_ _) | (with_reducible refine j' ?_ _) | (with_reducible refine o' ?_)))
      (case side2 => exact HC202.out)
      rintro e w70 ⟨v204, rfl, ho0, hb⟩
      refine ⟨_, rfl, ?_⟩
      have n0_ := ae' (Kd.R_elder' (by (with_reducible repeat (first | apply m' | apply l' | apply n')); exact HO189.out) (Kd.R_base ho0) hb)
      have n1_ := ae' (Kd.R_lower (Kd.R_new' ho0 (Kd.R_lt (by (with_reducible repeat (first | apply m' | apply l' | apply n')); exact HO189.out))) (u' (by repeat (first | (with_reducible first | exact HB.out | apply h' | apply f' | apply g' | refine b' ?_ GE185.out | refine b' ?_ GE192.out | refine b' ?_ GE206.out) | exact HB.out))))
      have n2_ := ae' (p' (g := gb185) (o := .cells #[.int .i64 0, .int .i64 0, .slice none 0 0] 25 (0, 0)) (by (with_reducible repeat (first | apply c' | apply e' | apply d')); exact BK185.out) hb)
      have n3_ := ae' (p' (g := gb192) (o := .cells #[.int .i64 t186, .slice Ao62 t187.length co62] 80 (0, 0)) (by (with_reducible repeat (first | apply c' | apply e' | apply d')); exact BK192.out) hb)
      have n4_ := ae' (r' (by repeat (first | (with_reducible exact HR197.out) | (with_reducible refine k' ?_ _) | (with_reducible refine j' ?_ _) | (with_reducible refine o' ?_) | exact HR197.out)) hb)
      have n5_ := ae' (r' (by repeat (first | (with_reducible exact HR202.out) | (with_reducible refine k' ?_ _) | (with_reducible refine j' ?_ _) | (with_reducible refine o' ?_) | exact HR202.out)) hb)
      have n6_ := ae' (p' (g := gb206) (o := .cells #[.int .i64 0, .int .i64 0, .slice none 0 0] 25 (0, 0)) (by (with_reducible repeat (first | apply c' | apply e' | apply d')); exact BK206.out) hb)
      have n7_ := ae' (s' (by repeat (first | (with_reducible first | exact HB.out | apply h' | apply f' | apply g' | refine b' ?_ GE185.out | refine b' ?_ GE192.out | refine b' ?_ GE206.out) | exact HB.out)) hb)
      clear HO189
      clear BK185
      clear BK192
      clear HR197
      clear HR202
      clear BK206
      clear HB
      have HO189 := n0_
      have HO205 := n1_
      have BK185 := n2_
      have BK192 := n3_
      have HR197 := n4_
      have HR202 := n5_
      have BK206 := n6_
      have HB := n7_
      clear n0_ n1_ n2_ n3_ n4_ n5_ n6_ n7_
      (try clear hb)
      (try clear hb2)
      (try clear hk)
      (try clear hi)
      (try clear ho0)
      obtain ⟨Ao71, co71, eo71⟩ := Kd.R_slice HO205.out
      (first | subst eo71 | (injection eo71 with f1_ f2_ f3_; have f4_ := f1_.symm; have f5_ := f3_.symm; clear f1_ f2_ f3_; subst f4_; subst f5_))
      refine hK.out _ _ ⟨(q' BK192.out 0).trans rfl, (q' BK192.out 1).trans rfl⟩ (fun hHeld => ?_)
      clear hK K
      refine norm_ (a' := ?_) ?_ ?_
      rotate_left
      · show Act.put _ (some 45) _ = _
        simp only [Act.put, v', x', y', i64_w, i32_w]
        rfl
      refine pure_ (i := 11) (N := some 46) (v := ?_) (a' := ?_) #[Y,Y,Y,Y,Y,Y,Y,Y,Y,Y,Y,Y,Y,Z] rfl rfl (any_of HT_.out (by kernel_rfl)) (fun _ _ _ h => h) (Or.inl ⟨by rfl, ?_⟩) ?_ ?_
      rotate_left
      · intro w'
        go_simp
        with_reducible rfl
      rotate_left
      · simp only [Act.put, v', x', y', i64_w, i32_w]
        rfl
      exact norm_ (by simp only [putAll, Act.put, v', x', y']) (hCont (.slice Ao71 t203.length co71, gb206) _ ⟨hHeld, (by (with_reducible repeat (first | apply m' | apply l' | apply n')); exact Kd.R_mono HO189.out (fun _ hk => hk.2)), (by (with_reducible repeat (first | apply m' | apply l' | apply n')); exact Kd.R_mono HO205.out (fun _ hk => hk.2)), (by (with_reducible repeat (first | apply c' | apply e' | apply d')); exact BK185.out), (by (with_reducible repeat (first | apply c' | apply e' | apply d')); exact BK192.out), (by (with_reducible repeat (first | apply c' | apply e' | apply d')); exact BK206.out), GW206.out, GE206.out, NB185_206.out, NB206_185.out, NB192_206.out, NB206_192.out, (by repeat (first | (with_reducible first | exact HB.out | apply h' | apply f' | apply g' | refine b' ?_ GE185.out | refine b' ?_ GE192.out | refine b' ?_ GE206.out) | exact HB.out))⟩)
  rintro ⟨v204, gb206⟩ w72 ⟨hS_, h0_, h1_, h2_, h3_, h4_, h5_, h6_, h7_, h8_, h9_, h10_, h11_⟩
  have n0_ : Aside0 (Kd.R (Kd.int .u8) 5 w72 w.heap.size (fun k_ => some k_ ≠ (v204 : Value).ownBlock) (.slice Ao62 t187.length co62) t187) := ⟨h0_⟩
  have n1_ : Aside0 (Kd.R (Kd.int .u8) 5 w72 w.heap.size (fun k_ => some k_ ≠ (.slice Ao62 t187.length co62 : Value).ownBlock) v204 t203) := ⟨h1_⟩
  have n2_ : Aside0 (w72.heap[gb185]? = some (.cells #[.int .i64 0, .int .i64 0, .slice none 0 0] 25 (0, 0))) := ⟨h2_⟩
  have n3_ : Aside0 (w72.heap[gb192]? = some (.cells #[.int .i64 t186, .slice Ao62 t187.length co62] 80 (0, 0))) := ⟨h3_⟩
  have n4_ : Aside0 (w72.heap[gb206]? = some (.cells #[.int .i64 0, .int .i64 0, .slice none 0 0] 25 (0, 0))) := ⟨h4_⟩
  have n5_ : Aside0 (w.heap.size ≤ gb206) := ⟨h5_⟩
  have n6_ : Aside0 (w.heap.size ≤ gb206) := ⟨h6_⟩
  have n7_ : Aside0 (gb185 ≠ gb206) := ⟨h7_⟩
  have n8_ : Aside0 (gb206 ≠ gb185) := ⟨h8_⟩
  have n9_ : Aside0 (gb192 ≠ gb206) := ⟨h9_⟩
  have n10_ : Aside0 (gb206 ≠ gb192) := ⟨h10_⟩
  have n11_ : Aside0 (Below w.heap.size w w72) := ⟨h11_⟩
  clear HO189
  clear BK185
  clear BK192
  clear HB
  clear h0_ h1_ h2_ h3_ h4_ h5_ h6_ h7_ h8_ h9_ h10_ h11_
  have HO189 := n0_
  have HO205 := n1_
  have BK185 := n2_
  have BK192 := n3_
  have BK206 := n4_
  have GW206 := n5_
  have GE206 := n6_
  have NB185_206 := n7_
  have NB206_185 := n8_
  have NB192_206 := n9_
  have NB206_192 := n10_
  have HB := n11_
  clear n0_ n1_ n2_ n3_ n4_ n5_ n6_ n7_ n8_ n9_ n10_ n11_
  have hHeld : w72.cell? ⟨gb192, 0, none⟩ = some (.int .i64 t186) ∧ w72.cell? ⟨gb192, 1, none⟩ = some (.slice Ao62 t187.length co62) := hS_
  obtain ⟨Ao73, co73, eo73⟩ := Kd.R_slice HO205.out
  (first | subst eo73 | (injection eo73 with f1_ f2_ f3_; have f4_ := f1_.symm; have f5_ := f3_.symm; clear f1_ f2_ f3_; subst f4_; subst f5_))
  refine norm_ (a' := ?_) ?_ ?_
  rotate_left
  · simp only [putAll, Act.put, v', x', y']
    rfl
  refine one_ (i := 13) (N := none) #[Y,Y,Y,Y,Y,Y,Y,Y,Y,Y,Y,Y,Y,Y] rfl rfl (one_of HT_.out (by kernel_rfl)) (by decide) (fun K hK => ?_)
  have hs74 : w72.cell? ⟨gb206, 0, none⟩ = some (.int .i64 0) := (q' BK206.out 0).trans rfl
  have hfs74 := blk_frozen BK206.out 0
  have hns74_0 := NB185_206.out
  have hns74_1 := NB192_206.out
  have hms74_0 := NB206_185.out
  have hms74_1 := NB206_192.out
  have hs75 : w72.cell? ⟨gb206, 1, none⟩ = some (.int .i64 0) := (q' BK206.out 1).trans rfl
  have hfs75 := blk_frozen BK206.out 1
  have hns75_0 := NB185_206.out
  have hns75_1 := NB192_206.out
  have hms75_0 := NB206_185.out
  have hms75_1 := NB206_192.out
  have hs76 : w72.cell? ⟨gb206, 2, none⟩ = some (.slice none 0 0) := (q' BK206.out 2).trans rfl
  have hfs76 := blk_frozen BK206.out 2
  have hns76_0 := NB185_206.out
  have hns76_1 := NB192_206.out
  have hms76_0 := NB206_185.out
  have hms76_1 := NB206_192.out
  refine skip_ (w1 := ?_) (by rfl) rfl ?_ ?_
  rotate_left
  · go_simp
    rfl
  refine hK.out _ _ ⟨((cell_far (p := ⟨gb206, _, none⟩) NB192_206.out _).trans (((cell_far (p := ⟨gb206, _, none⟩) NB192_206.out _).trans (((cell_far (p := ⟨gb206, _, none⟩) NB192_206.out _).trans (hHeld.1)))))), ((cell_far (p := ⟨gb206, _, none⟩) NB192_206.out _).trans (((cell_far (p := ⟨gb206, _, none⟩) NB192_206.out _).trans (((cell_far (p := ⟨gb206, _, none⟩) NB192_206.out _).trans (hHeld.2))))))⟩ (fun hHeld => ?_)
  clear hK K
  refine done_ (done_of HT_.out (by kernel_rfl)) ?_
  have hnb77 := NB206_185.out
  have hnc77 := NB185_206.out
  have hnb78 := NB206_192.out
  have hnc78 := NB192_206.out
  have hcz79_0 : w72.cell? ⟨gb206, 0, none⟩ = some (.int .i64 0) := (q' BK206.out 0).trans rfl
  have hcz79_1 : w72.cell? ⟨gb206, 1, none⟩ = some (.int .i64 0) := (q' BK206.out 1).trans rfl
  have hcz79_2 : w72.cell? ⟨gb206, 2, none⟩ = some (.slice none 0 0) := (q' BK206.out 2).trans rfl
  have hfz79_0 := blk_frozen BK206.out 0
  have hfz79_1 := blk_frozen BK206.out 1
  have hfz79_2 := blk_frozen BK206.out 2
  try go_wp2_with (first | ((with_reducible refine gate_callee (f := 24) rfl ?_); refine goesL_ (some 48) rfl rfl Try.func24 (by kernel_rfl) rfl #[.agg #[.int .i64 t193, .int .i64 t198, .slice Ao73 t203.length co73]] rfl (by (try simp only [z', aa', ab']); first | done | rfl | (simp only [ac', ad']; rfl)) ?_; (with_reducible refine (snap_Check.calls k t193 t198 _ _ t203 t207 _ ?side1 ?side2 A19.out).mono ?_); (case side1 => refine (Kd.R_reads' (e := 5) (base := w.heap.size) (ok := fun k_ => some k_ ≠ (.slice Ao62 t187.length co62 : Value).ownBlock) (n := t203.length) (c := co73) ?_).2.2; exact (by (with_reducible repeat (first | apply m' | apply l' | apply n')); exact (Kd.R_mono (Kd.R_far (p := ⟨gb206, 2, none⟩) (Kd.R_far (p := ⟨gb206, 1, none⟩) (Kd.R_far (p := ⟨gb206, 0, none⟩) (Kd.R_types HO205.out BK206.out (by decide)) (fun _ hk => hk.2) (.int .i64 t193)) (fun _ hk => hk.2) (.int .i64 t198)) (fun _ hk => hk.2) (.slice Ao73 t203.length co73)) (fun _ h_ => h_.1)))); (case side2 => exact (Kd.R_reads' HO205.out).2.1); rintro e w80 ⟨rfl, hb⟩; refine ⟨_, rfl, ?_⟩; have n0_ := ae' (Kd.R_below (by (with_reducible repeat (first | apply m' | apply l' | apply n')); exact (Kd.R_mono (Kd.R_far (p := ⟨gb206, 2, none⟩) (Kd.R_far (p := ⟨gb206, 1, none⟩) (Kd.R_far (p := ⟨gb206, 0, none⟩) (Kd.R_types HO189.out BK206.out (by decide)) (fun _ hk => hk.2) (.int .i64 t193)) (fun _ hk => hk.2) (.int .i64 t198)) (fun _ hk => hk.2) (.slice Ao73 t203.length co73)) (fun _ h_ => h_.1))) hb); have n1_ := ae' (Kd.R_below (by (with_reducible repeat (first | apply m' | apply l' | apply n')); exact (Kd.R_mono (Kd.R_far (p := ⟨gb206, 2, none⟩) (Kd.R_far (p := ⟨gb206, 1, none⟩) (Kd.R_far (p := ⟨gb206, 0, none⟩) (Kd.R_types HO205.out BK206.out (by decide)) (fun _ hk => hk.2) (.int .i64 t193)) (fun _ hk => hk.2) (.int .i64 t198)) (fun _ hk => hk.2) (.slice Ao73 t203.length co73)) (fun _ h_ => h_.1))) hb); have n2_ := ae' (p' (g := gb185) (o := .cells #[.int .i64 0, .int .i64 0, .slice none 0 0] 25 (0, 0)) (by (with_reducible repeat (first | apply c' | apply e' | apply d')); refine blk_far ?_ NB185_206.out _; (with_reducible repeat (first | apply c' | apply e' | apply d')); refine blk_far ?_ NB185_206.out _; (with_reducible repeat (first | apply c' | apply e' | apply d')); refine blk_far ?_ NB185_206.out _; (with_reducible repeat (first | apply c' | apply e' | apply d')); exact BK185.out) hb); have n3_ := ae' (p' (g := gb192) (o := .cells #[.int .i64 t186, .slice Ao62 t187.length co62] 80 (0, 0)) (by (with_reducible repeat (first | apply c' | apply e' | apply d')); refine blk_far ?_ NB192_206.out _; (with_reducible repeat (first | apply c' | apply e' | apply d')); refine blk_far ?_ NB192_206.out _; (with_reducible repeat (first | apply c' | apply e' | apply d')); refine blk_far ?_ NB192_206.out _; (with_reducible repeat (first | apply c' | apply e' | apply d')); exact BK192.out) hb); have n4_ := ae' (p' (g := gb206) (o := .cells #[.int .i64 t193, .int .i64 t198, .slice Ao73 t203.length co73] 25 (0, 0)) (by (with_reducible repeat (first | apply c' | apply e' | apply d')); refine blk_put (cs := #[.int .i64 t193, .int .i64 t198, .slice none 0 0]) ?_ 2 _ rfl; (with_reducible repeat (first | apply c' | apply e' | apply d')); refine blk_put (cs := #[.int .i64 t193, .int .i64 0, .slice none 0 0]) ?_ 1 _ rfl; (with_reducible repeat (first | apply c' | apply e' | apply d')); refine blk_put (cs := #[.int .i64 0, .int .i64 0, .slice none 0 0]) ?_ 0 _ rfl; (with_reducible repeat (first | apply c' | apply e' | apply d')); exact BK206.out) hb); have n5_ := ae' (s' (by repeat (first | (with_reducible first | exact HB.out | apply h' | apply f' | apply g' | refine b' ?_ GE185.out | refine b' ?_ GE192.out | refine b' ?_ GE206.out) | exact HB.out)) hb); clear HO189; clear HO205; clear BK185; clear BK192; clear BK206; clear HB; have HO189 := n0_; have HO205 := n1_; have BK185 := n2_; have BK192 := n3_; have BK206 := n4_; have HB := n5_; clear n0_ n1_ n2_ n3_ n4_ n5_; (try clear hb); (try clear hb2); (try clear hk); (try clear hi)) | ((with_reducible refine gate_dst (N := 53) rfl ?_); refine Kd.R_lit (Kd.int .u8) _ 5 ?hg (N := 53) ?hd (xs := ([0] : List Int)) (inner := [.int .u8 0]) (ok := fun _ => True) (okp := fun _ => True) ?hr ?hp (fun _ hk => hk) trivial (Below.refl _ _) (Nat.le_refl _) (by simp) ?_; (case hd => rfl); (case hg => rfl); (case hr => first | (go_simp; done) | (go_simp; rfl)); (case hp => exact (Reps.one (show Kd.M (Kd.int .u8) _ _ _ 0 [.int .u8 0] from rfl) (Reps.none _ _))); intro v209 w81 ho82 hb hg_ hnew_; clear hg_ hnew_; (first | rw [← Ny208.out] at ho82 | (simp only [Int.reduceToNat] at ho82; rw [← Ny208.out] at ho82)); have n0_ := ae' (Kd.R_elder' (by (with_reducible repeat (first | apply m' | apply l' | apply n')); exact HO189.out) (Kd.R_base ho82) hb); have n1_ := ae' (Kd.R_elder' (by (with_reducible repeat (first | apply m' | apply l' | apply n')); exact HO205.out) (Kd.R_base ho82) hb); have n2_ := ae' (Kd.R_lower (Kd.R_new' (Kd.R_new' ho82 (Kd.R_lt (by (with_reducible repeat (first | apply m' | apply l' | apply n')); exact HO189.out))) (Kd.R_lt (by (with_reducible repeat (first | apply m' | apply l' | apply n')); exact HO205.out))) (u' (by repeat (first | (with_reducible first | exact HB.out | apply h' | apply f' | apply g' | refine b' ?_ GE185.out | refine b' ?_ GE192.out | refine b' ?_ GE206.out) | exact HB.out)))); have n3_ := ae' (p' (g := gb185) (o := .cells #[.int .i64 0, .int .i64 0, .slice none 0 0] 25 (0, 0)) (by (with_reducible repeat (first | apply c' | apply e' | apply d')); exact BK185.out) hb); have n4_ := ae' (p' (g := gb192) (o := .cells #[.int .i64 t186, .slice Ao62 t187.length co62] 80 (0, 0)) (by (with_reducible repeat (first | apply c' | apply e' | apply d')); exact BK192.out) hb); have n5_ := ae' (p' (g := gb206) (o := .cells #[.int .i64 t193, .int .i64 t198, .slice Ao73 t203.length co73] 25 (0, 0)) (by (with_reducible repeat (first | apply c' | apply e' | apply d')); exact BK206.out) hb); have n6_ := ae' (s' (by repeat (first | (with_reducible first | exact HB.out | apply h' | apply f' | apply g' | refine b' ?_ GE185.out | refine b' ?_ GE192.out | refine b' ?_ GE206.out) | exact HB.out)) hb); clear HO189; clear HO205; clear BK185; clear BK192; clear BK206; clear HB; have HO189 := n0_; have HO205 := n1_; have HO210 := n2_; have BK185 := n3_; have BK192 := n4_; have BK206 := n5_; have HB := n6_; clear n0_ n1_ n2_ n3_ n4_ n5_ n6_; clear hb ho82; have q83 : (t190 : Int) ≤ ((l0.length : Int) : Int) := of_decide_eq_true (by first | (with_reducible assumption) | assumption); obtain ⟨i083, hi083, _, hsz83, _⟩ := info_parts info5; have hroom83 : l0.length ≤ c0 := HC0.out; have hC83 : Kd.C (Kd.int .u8) _ A0 l0.length l0 := HR0.out; have q083 : (0 : Int) ≤ (t190 : Int) := of_decide_eq_true (by first | (with_reducible assumption) | assumption); have hcut83 := cut_from (P := Try.prog) 22 5 .i64 Try.underlying22 hi083 1 hsz83 A0 l0.length c0 t190 q083 q83; have hr83 := Kd.C_drop (m := (t190 : Int).toNat) (c := c0) hC83 (by omega) hroom83; obtain ⟨A83, hA83⟩ : ∃ A1, A1 = (if c0 = (t190 : Int).toNat then A0 else (A0 : Option Addr).map (·.add ((t190 : Int).toNat * 1))) := ⟨_, rfl⟩; obtain ⟨c83, hc83⟩ : ∃ c1, c1 = c0 - (t190 : Int).toNat := ⟨_, rfl⟩; have hy83 : y211.length = l0.length - (t190 : Int).toNat := (by rw [Ny211.out, ac'] <;> omega); rw [show (l0).drop (t190 : Int).toNat = y211 from Ny211.out.symm] at hr83; replace hr83 : Kd.C (Kd.int .u8) _ A83 y211.length y211 := (by rw [hA83]; exact hr83); rw [← hy83, ← hA83, ← hc83] at hcut83; have HR214 := ae' hr83; have HC214 := ae' (show y211.length ≤ c83 from by rw [hy83, hc83]; exact Nat.sub_le_sub_right hroom83 _); clear hr83 hC83 hroom83 hi083 hsz83 hc83; have KY83 := ae' hy83; have KA83 := ae' hA83; clear hy83 hA83; replace q83 := eq_true q83) | ((with_reducible refine gate_builtin (b := .append) (xs := #[.tmp 53, .tmp 56]) rfl ?_); at_builtin; refine Kd.R_append_rows (Kd.int .u8) (w0 := w) w.heap.size rfl (.tmp 53) (.tmp 56) 22 5 (.int .u8 0) 1 rfl Try.underlying22 info5 rfl (by decide) (by omega) v209 y208 y211 _ _ _ (fun k_ => some k_ ≠ (.slice Ao62 t187.length co62 : Value).ownBlock ∧ some k_ ≠ (.slice Ao73 t203.length co73 : Value).ownBlock) (fun _ => False) rfl rfl ?aO ?aR (fun _ _ h => h) (fun _ h => h.elim) ?aF ?aB ?aS ?aL ?_; (case aR => repeat (first | exact (r' HR214.out HB.out) | (with_reducible refine k' ?_ _) | (with_reducible refine j' ?_ _) | (with_reducible refine o' ?_))); (case aB => exact (by repeat (first | (with_reducible first | exact HB.out | apply h' | apply f' | apply g' | refine b' ?_ GE185.out | refine b' ?_ GE192.out | refine b' ?_ GE206.out) | exact HB.out))); (case aF => exact (fun k_ hk => ⟨Kd.fresh' (Kd.R_lt (by (with_reducible repeat (first | apply m' | apply l' | apply n')); exact HO189.out)) k_ hk, Kd.fresh' (Kd.R_lt (by (with_reducible repeat (first | apply m' | apply l' | apply n')); exact HO205.out)) k_ hk⟩)); (case aO => exact (by (with_reducible repeat (first | apply m' | apply l' | apply n')); exact Kd.R_mono HO210.out (fun _ hk => ⟨hk.1.2, hk.2⟩))); (case aS => exact (u' (by repeat (first | (with_reducible first | exact HB.out | apply h' | apply f' | apply g' | refine b' ?_ GE185.out | refine b' ?_ GE192.out | refine b' ?_ GE206.out) | exact HB.out)))); (case aL => have := LMc23.out; omega); intro v216 w84 ho hb hg hat; rw [← Ny215.out] at ho; have n0_ := ae' (blk_grown (g := gb185) (o := .cells #[.int .i64 0, .int .i64 0, .slice none 0 0] 25 (0, 0)) (by (with_reducible repeat (first | apply c' | apply e' | apply d')); exact BK185.out) hg (Kd.R_ne HO210.out BK185.out (by decide))); have n1_ := ae' (Kd.R_after (ok := (fun k_ => some k_ ≠ (.slice Ao73 t203.length co73 : Value).ownBlock)) (by (with_reducible repeat (first | apply m' | apply l' | apply n')); exact HO189.out) hg hat); have n2_ := ae' (blk_grown (g := gb192) (o := .cells #[.int .i64 t186, .slice Ao62 t187.length co62] 80 (0, 0)) (by (with_reducible repeat (first | apply c' | apply e' | apply d')); exact BK192.out) hg (Kd.R_ne HO210.out BK192.out (by decide))); have n3_ := ae' (Kd.R_after (ok := (fun k_ => some k_ ≠ (.slice Ao62 t187.length co62 : Value).ownBlock)) (by (with_reducible repeat (first | apply m' | apply l' | apply n')); exact HO205.out) hg hat); have n4_ := ae' (blk_grown (g := gb206) (o := .cells #[.int .i64 t193, .int .i64 t198, .slice Ao73 t203.length co73] 25 (0, 0)) (by (with_reducible repeat (first | apply c' | apply e' | apply d')); exact BK206.out) hg (Kd.R_ne HO210.out BK206.out (by decide))); have n5_ := ae' (hb); have n6_ := ae' (ho); clear BK185; clear HO189; clear BK192; clear HO205; clear BK206; clear HB; clear HO210; have BK185 := n0_; have HO189 := n1_; have BK192 := n2_; have HO205 := n3_; have BK206 := n4_; have HB := n5_; have HO217 := n6_; clear n0_ n1_ n2_ n3_ n4_ n5_ n6_; clear ho hb hg hat; obtain ⟨Ao85, co85, eo85⟩ := Kd.R_slice HO217.out; subst eo85) | ((with_reducible refine gate_callee (f := 47) rfl ?_); refine goesL_ (some 58) rfl rfl Try.func47 (by kernel_rfl) rfl #[.slice Ao85 y215.length co85] rfl (by (try simp only [z', aa', ab']); first | done | rfl | (simp only [ac', ad']; rfl)) ?_; (with_reducible refine (slices_Max_byte_byte.calls k _ _ y215 t218 _ ?side1 ?side2 A24.out).mono ?_); (case side1 => repeat (first | exact (Kd.R_reads' HO217.out).2.2 | (with_reducible refine k' ?_ _) | (with_reducible refine j' ?_ _) | (with_reducible refine o' ?_))); (case side2 => exact (Kd.R_reads' HO217.out).2.1); rintro e w86 ⟨rfl, hb⟩; refine ⟨_, rfl, ?_⟩; have n0_ := ae' (Kd.R_below (by (with_reducible repeat (first | apply m' | apply l' | apply n')); exact HO189.out) hb); have n1_ := ae' (Kd.R_below (by (with_reducible repeat (first | apply m' | apply l' | apply n')); exact HO205.out) hb); have n2_ := ae' (Kd.R_below (by (with_reducible repeat (first | apply m' | apply l' | apply n')); exact HO217.out) hb); have n3_ := ae' (p' (g := gb185) (o := .cells #[.int .i64 0, .int .i64 0, .slice none 0 0] 25 (0, 0)) (by (with_reducible repeat (first | apply c' | apply e' | apply d')); exact BK185.out) hb); have n4_ := ae' (p' (g := gb192) (o := .cells #[.int .i64 t186, .slice Ao62 t187.length co62] 80 (0, 0)) (by (with_reducible repeat (first | apply c' | apply e' | apply d')); exact BK192.out) hb); have n5_ := ae' (p' (g := gb206) (o := .cells #[.int .i64 t193, .int .i64 t198, .slice Ao73 t203.length co73] 25 (0, 0)) (by (with_reducible repeat (first | apply c' | apply e' | apply d')); exact BK206.out) hb); have n6_ := ae' (s' (by repeat (first | (with_reducible first | exact HB.out | apply h' | apply f' | apply g' | refine b' ?_ GE185.out | refine b' ?_ GE192.out | refine b' ?_ GE206.out) | exact HB.out)) hb); clear HO189; clear HO205; clear HO217; clear BK185; clear BK192; clear BK206; clear HB; have HO189 := n0_; have HO205 := n1_; have HO217 := n2_; have BK185 := n3_; have BK192 := n4_; have BK206 := n5_; have HB := n6_; clear n0_ n1_ n2_ n3_ n4_ n5_ n6_; (try clear hb); (try clear hb2); (try clear hk); (try clear hi); have hcz87_0 : w86.cell? ⟨gb206, 0, none⟩ = some (.int .i64 t193) := (q' BK206.out 0).trans rfl; have hcz87_1 : w86.cell? ⟨gb206, 1, none⟩ = some (.int .i64 t198) := (q' BK206.out 1).trans rfl; have hcz87_2 : w86.cell? ⟨gb206, 2, none⟩ = some (.slice Ao73 t203.length co73) := (q' BK206.out 2).trans rfl; have hfz87_0 := blk_frozen BK206.out 0; have hfz87_1 := blk_frozen BK206.out 1; have hfz87_2 := blk_frozen BK206.out 2; have hcz88_0 : w86.cell? ⟨gb185, 0, none⟩ = some (.int .i64 0) := (q' BK185.out 0).trans rfl; have hcz88_1 : w86.cell? ⟨gb185, 1, none⟩ = some (.int .i64 0) := (q' BK185.out 1).trans rfl; have hcz88_2 : w86.cell? ⟨gb185, 2, none⟩ = some (.slice none 0 0) := (q' BK185.out 2).trans rfl; have hfz88_0 := blk_frozen BK185.out 0; have hfz88_1 := blk_frozen BK185.out 1; have hfz88_2 := blk_frozen BK185.out 2))
  refine bodyPost_ret (results_ct rfl _ _ gb185 25 #[.int .i64 t193, .int .i64 t198, .slice Ao73 t203.length co73] (0, 0) _ rfl (by (with_reducible repeat (first | apply c' | apply e' | apply d')); refine blk_put (cs := #[.int .i64 t193, .int .i64 t198, .slice none 0 0]) ?_ 2 _ rfl; (with_reducible repeat (first | apply c' | apply e' | apply d')); refine blk_put (cs := #[.int .i64 t193, .int .i64 0, .slice none 0 0]) ?_ 1 _ rfl; (with_reducible repeat (first | apply c' | apply e' | apply d')); refine blk_put (cs := #[.int .i64 0, .int .i64 0, .slice none 0 0]) ?_ 0 _ rfl; (with_reducible repeat (first | apply c' | apply e' | apply d')); exact BK185.out) Try.underlying25 rfl (by kernel_rfl)) rfl ?_
  exact ⟨_, by first | rfl | (simp [errW_none, errW_some] <;> rfl) | (simp [*, errW_none, errW_some] <;> rfl), by (with_reducible repeat (first | apply m' | apply l' | apply n')); exact Kd.R_mono (Kd.R_far (p := ⟨gb185, 2, none⟩) (Kd.R_far (p := ⟨gb185, 1, none⟩) (Kd.R_far (p := ⟨gb185, 0, none⟩) (Kd.R_types HO205.out BK185.out (by decide)) (fun _ hk => hk.2) (.int .i64 t193)) (fun _ hk => hk.2) (.int .i64 t198)) (fun _ hk => hk.2) (.slice Ao73 t203.length co73)) (fun _ hk => trivial), by repeat (first | (with_reducible first | exact HB.out | apply h' | apply f' | apply g' | refine b' ?_ GE185.out | refine b' ?_ GE192.out | refine b' ?_ GE206.out) | exact HB.out)⟩
end Go.Proofs.Ytkdaeleolomdkaa.V
