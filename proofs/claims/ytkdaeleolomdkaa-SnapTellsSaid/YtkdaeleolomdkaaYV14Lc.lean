import Derived.Test.YtkdaeleolomdkaaYV0
import Derived.Test.YtkdaeleolomdkaaYV1
import Derived.Test.YtkdaeleolomdkaaYV10
import Derived.Test.YtkdaeleolomdkaaYV12
import Derived.Test.YtkdaeleolomdkaaYV13
import Derived.Test.YtkdaeleolomdkaaYV14L
namespace Go.Proofs.Ytkdaeleolomdkaa.V
open Go.Proofs.YtkdaeleolomdkaaW.PrintWords renaming blk_drewN → b', blk_alloc → c', below_set → d', blk_drew → e', pw_below_drewN → f', below_drew1 → g', below_alloc → h', blk_below → m', blk_cell → p'
open Go.Proofs.YtkdaeleolomdkaaW.PrintWords.Kd renaming C_drewN → j', C_alloc → k', C_drew → l', R_drewN → n', R_alloc → o', R_drew → q', C_below → r'
open List renaming setIfInBounds_toArray → s', set_cons_zero → u', set_cons_succ → v', map_toArray → x', map_cons → y', map_nil → z', length_drop → aa', length_take → ab'
open Go.Proofs.YtkdaeleolomdkaaW.PrintWords.Aside0 renaming mk → ac'
open Bool renaming true → Y, false → Z
open Go.RowKit Go.Proofs.YtkdaeleolomdkaaW.PrintWords Go.Proofs.YtkdaeleolomdkaaW.PrintLast Go.Proofs.YtkdaeleolomdkaaW.PrintMore
attribute [local go_sem] max2_int min2_int max_two min_two max_three min_three max_four min_four   -- for this text's walks alone
set_option linter.unusedVariables false
set_option linter.unusedSimpArgs false
set_option maxHeartbeats 8000000 in
set_option maxRecDepth 100000 in
theorem snap_Decode.calls.leaf2 (k : Nat) (A0 : Option Addr) (c0 : Nat) (l0 : List Int) (w : World) (HR0 : Aside0 ((Kd.int IntKind.u8).C w A0 l0.length l0)) (HC0 : Aside0 (l0.length ≤ c0)) (HB : Aside0 (Below w.heap.size w w)) (c2b0 : ((↑l0.length : Int) == 8160) = true) (c2b1 : ((↑l0.length : Int) != 8160) = false) (t186 : Int) (t187 : List Int) (t190 t191 : Int) (A3 : Aside0 (seal_Get.f l0 = some (t186, t187, t190, t191))) (c4b0 : (t191 == 0) = true) (c4b1 : (t191 != 0) = false) (c5b0 : (t186 == 3) = true) (c5b1 : (t186 != 3) = false) (c6b0 : decide ((↑t187.length : Int) < 16) = false) (c6b1 : decide (t187.length < 16) = false) (t193 : Int) (A14 : Aside0 (snap_number.f k t187 = some t193)) (c15b0 : (8 ≤ (↑t187.length : Int)) = True) (c15b1 : decide (8 ≤ (↑t187.length : Int)) = true) (y194 : List Int) (Ny194 : Aside0 (y194 = List.drop 8 t187)) (t198 : Int) (A16 : Aside0 (snap_number.f k y194 = some t198)) (c17b0 : (16 ≤ (↑t187.length : Int)) = True) (c17b1 : decide (16 ≤ (↑t187.length : Int)) = true) (y199 : List Int) (Ny199 : Aside0 (y199 = List.drop 16 t187)) (t203 : List Int) (A18 : Aside0 (bytes_Clone.f y199 = some t203)) (t207 : Int) (A19 : Aside0 (snap_Check.f k t193 t198 t203 = some t207)) (c20 : ¬t207 = 0) (c20b0 : (t207 == 0) = false) (c20b1 : (t207 != 0) = true) :
    Calls Try.prog 17 #[Value.slice A0 l0.length c0] w fun e w' => ∃ v2_, e = Ending.returned (Value.tuple #[Value.agg #[Value.int IntKind.i64 0, Value.int IntKind.i64 0, v2_], Value.int IntKind.i64 t207]) ∧ (Kd.int IntKind.u8).R 5 w' w.heap.size (fun x => True) v2_ [] ∧ Below w.heap.size w w' := by
  have hu25 := Try.underlying25
  have hu80 := Try.underlying80
  go_enter Try.func17, Try.ntmps17
  try go_wp2_with (first | ((with_reducible refine gate_dst (N := 2) rfl ?_); refine box_event ?hg (N := 2) ?hd (cs := #[.int .i64 0, .int .i64 0, .slice none 0 0]) (t := 25) ?hr ?_; (case hd => rfl); (case hg => rfl); (case hr => first | (go_simp; done) | (go_simp; rfl)); intro gb185 hg w89 hbox hb; have n0_ := ac' (below_step (by repeat (first | (with_reducible first | exact HB.out | apply h' | apply f' | apply g') | exact HB.out)) hb); have n1_ := ac' (hbox); have n2_ := ac' ((by rw [hg]; exact (below_size (by repeat (first | (with_reducible first | exact HB.out | apply h' | apply f' | apply g') | exact HB.out))) : w.heap.size ≤ gb185)); have n3_ := ac' ((by rw [hg]; exact (below_size (by repeat (first | (with_reducible first | exact HB.out | apply h' | apply f' | apply g') | exact HB.out))) : w.heap.size ≤ gb185)); clear HB; have HB := n0_; have BK185 := n1_; have GW185 := n2_; have GE185 := n3_; clear n0_ n1_ n2_ n3_; clear hb hbox hg) | ((with_reducible refine gate_callee (f := 44) rfl ?_); refine goesL_ (some 15) rfl rfl Try.func44 (by kernel_rfl) rfl #[.slice A0 l0.length c0] rfl (by (try simp only [x', y', z']); first | done | rfl | (simp only [aa', ab']; rfl)) ?_; (with_reducible refine (seal_Get.calls _ _ l0 t186 t187 t190 t191 _ ?side1 ?side2 A3.out).mono ?_); (case side1 => repeat (first | exact (r' HR0.out HB.out) | (with_reducible refine k' ?_ _) | (with_reducible refine j' ?_ _) | (with_reducible refine l' ?_))); (case side2 => exact HC0.out); rintro e w90 ⟨v188, rfl, ho0, hb⟩; refine ⟨_, rfl, ?_⟩; have n0_ := ac' (Kd.R_lower ho0 (below_size (by repeat (first | (with_reducible first | exact HB.out | apply h' | apply f' | apply g' | refine d' ?_ GE185.out) | exact HB.out)))); have n1_ := ac' (m' (g := gb185) (o := .cells #[.int .i64 0, .int .i64 0, .slice none 0 0] 25 (0, 0)) (by (with_reducible repeat (first | apply b' | apply e' | apply c')); exact BK185.out) hb); have n2_ := ac' (below_step (by repeat (first | (with_reducible first | exact HB.out | apply h' | apply f' | apply g' | refine d' ?_ GE185.out) | exact HB.out)) hb); clear BK185; clear HB; have HO189 := n0_; have BK185 := n1_; have HB := n2_; clear n0_ n1_ n2_; (try clear hb); (try clear hb2); (try clear hk); (try clear hi); (try clear ho0)) | ((with_reducible refine gate_dst (N := 4) rfl ?_); refine box_event ?hg (N := 4) ?hd (cs := #[.int .i64 0, .slice none 0 0]) (t := 80) ?hr ?_; (case hd => rfl); (case hg => rfl); (case hr => first | (go_simp; done) | (go_simp; rfl)); intro gb192 hg w91 hbox hb; have n0_ := ac' (Kd.R_below (by (with_reducible repeat (first | apply o' | apply n' | apply q')); exact HO189.out) hb); have n1_ := ac' (m' (g := gb185) (o := .cells #[.int .i64 0, .int .i64 0, .slice none 0 0] 25 (0, 0)) (by (with_reducible repeat (first | apply b' | apply e' | apply c')); exact BK185.out) hb); have n2_ := ac' (below_step (by repeat (first | (with_reducible first | exact HB.out | apply h' | apply f' | apply g' | refine d' ?_ GE185.out) | exact HB.out)) hb); have n3_ := ac' (hbox); have n4_ := ac' ((by rw [hg]; exact (below_size (by repeat (first | (with_reducible first | exact HB.out | apply h' | apply f' | apply g' | refine d' ?_ GE185.out) | exact HB.out))) : w.heap.size ≤ gb192)); have n5_ := ac' ((by rw [hg]; exact (below_size (by repeat (first | (with_reducible first | exact HB.out | apply h' | apply f' | apply g' | refine d' ?_ GE185.out) | exact HB.out))) : w.heap.size ≤ gb192)); have n6_ := ac' ((by rw [hg]; exact Nat.ne_of_lt (blk_lt (g := gb185) (o := .cells #[.int .i64 0, .int .i64 0, .slice none 0 0] 25 (0, 0)) (by (with_reducible repeat (first | apply b' | apply e' | apply c')); exact BK185.out)) : gb185 ≠ gb192)); have n7_ := ac' ((by rw [hg]; exact Nat.ne_of_gt (blk_lt (g := gb185) (o := .cells #[.int .i64 0, .int .i64 0, .slice none 0 0] 25 (0, 0)) (by (with_reducible repeat (first | apply b' | apply e' | apply c')); exact BK185.out)) : gb192 ≠ gb185)); clear HO189; clear BK185; clear HB; have HO189 := n0_; have BK185 := n1_; have HB := n2_; have BK192 := n3_; have GW192 := n4_; have GE192 := n5_; have NB185_192 := n6_; have NB192_185 := n7_; clear n0_ n1_ n2_ n3_ n4_ n5_ n6_ n7_; clear hb hbox hg; have hnb92 := NB192_185.out; have hnc92 := NB185_192.out; have hcz93_0 : w91.cell? ⟨gb192, 0, none⟩ = some (.int .i64 0) := (p' BK192.out 0).trans rfl; have hcz93_1 : w91.cell? ⟨gb192, 1, none⟩ = some (.slice none 0 0) := (p' BK192.out 1).trans rfl; have hfz93_0 := blk_frozen BK192.out 0; have hfz93_1 := blk_frozen BK192.out 1; obtain ⟨Ao94, co94, eo94⟩ := Kd.R_slice HO189.out; subst eo94))
  have n0_ : Aside0 (Kd.R (Kd.int .u8) 5 ((w91.setCell ⟨gb192, 0, none⟩ (.int .i64 t186)).setCell ⟨gb192, 1, none⟩ (.slice Ao94 t187.length co94)) w.heap.size (fun _ => True) (.slice Ao94 t187.length co94) t187) := ⟨by (with_reducible repeat (first | apply o' | apply n' | apply q')); exact Kd.R_mono (Kd.R_far (p := ⟨gb192, 1, none⟩) (Kd.R_far (p := ⟨gb192, 0, none⟩) (Kd.R_types HO189.out BK192.out (by decide)) (fun _ hk => hk.2) (.int .i64 t186)) (fun _ hk => hk.2) (.slice Ao94 t187.length co94)) (fun _ hk => trivial)⟩
  have n1_ : Aside0 (((w91.setCell ⟨gb192, 0, none⟩ (.int .i64 t186)).setCell ⟨gb192, 1, none⟩ (.slice Ao94 t187.length co94)).heap[gb185]? = some (.cells #[.int .i64 0, .int .i64 0, .slice none 0 0] 25 (0, 0))) := ⟨by (with_reducible repeat (first | apply b' | apply e' | apply c')); refine blk_far ?_ NB185_192.out _; (with_reducible repeat (first | apply b' | apply e' | apply c')); refine blk_far ?_ NB185_192.out _; (with_reducible repeat (first | apply b' | apply e' | apply c')); exact BK185.out⟩
  have n2_ : Aside0 (((w91.setCell ⟨gb192, 0, none⟩ (.int .i64 t186)).setCell ⟨gb192, 1, none⟩ (.slice Ao94 t187.length co94)).heap[gb192]? = some (.cells #[.int .i64 t186, .slice Ao94 t187.length co94] 80 (0, 0))) := ⟨by (with_reducible repeat (first | apply b' | apply e' | apply c')); refine blk_put (cs := #[.int .i64 t186, .slice none 0 0]) ?_ 1 _ rfl; (with_reducible repeat (first | apply b' | apply e' | apply c')); refine blk_put (cs := #[.int .i64 0, .slice none 0 0]) ?_ 0 _ rfl; (with_reducible repeat (first | apply b' | apply e' | apply c')); exact BK192.out⟩
  have n3_ : Aside0 (Below w.heap.size w ((w91.setCell ⟨gb192, 0, none⟩ (.int .i64 t186)).setCell ⟨gb192, 1, none⟩ (.slice Ao94 t187.length co94))) := ⟨by repeat (first | (with_reducible first | exact HB.out | apply h' | apply f' | apply g' | refine d' ?_ GE185.out | refine d' ?_ GE192.out) | exact HB.out)⟩
  (try clear HO189)
  (try clear BK185)
  (try clear BK192)
  (try clear HB)
  generalize ((w91.setCell ⟨gb192, 0, none⟩ (.int .i64 t186)).setCell ⟨gb192, 1, none⟩ (.slice Ao94 t187.length co94)) = w95 at n0_ n1_ n2_ n3_ ⊢
  have HO189 := n0_
  have BK185 := n1_
  have BK192 := n2_
  have HB := n3_
  clear n0_ n1_ n2_ n3_
  have n0_ := ac' (q' HO189.out)
  have n1_ := ac' (e' BK185.out)
  have n2_ := ac' (e' BK192.out)
  have n3_ := ac' (g' HB.out)
  clear HO189
  clear BK185
  clear BK192
  clear HB
  have HO189 := n0_
  have BK185 := n1_
  have BK192 := n2_
  have HB := n3_
  clear n0_ n1_ n2_ n3_
  have q97 : (8 : Int) ≤ ((t187.length : Int) : Int) := of_decide_eq_true (by first | (with_reducible assumption) | assumption)
  obtain ⟨i097, hi097, _, hsz97, _⟩ := info_parts info5
  have hroom97 : t187.length ≤ co94 := (Kd.R_reads' HO189.out).2.1
  have hC97 : Kd.C (Kd.int .u8) _ Ao94 t187.length t187 := (Kd.R_reads' HO189.out).2.2
  have hcut97 := cut_from (P := Try.prog) 22 5 .i64 Try.underlying22 hi097 1 hsz97 Ao94 t187.length co94 8 (by omega) q97
  have hr97 := Kd.C_drop (m := (8 : Int).toNat) (c := co94) hC97 (by omega) hroom97
  obtain ⟨A97, hA97⟩ : ∃ A1, A1 = (if co94 = (8 : Int).toNat then Ao94 else (Ao94 : Option Addr).map (·.add ((8 : Int).toNat * 1))) := ⟨_, rfl⟩
  obtain ⟨c97, hc97⟩ : ∃ c1, c1 = co94 - (8 : Int).toNat := ⟨_, rfl⟩
  have hy97 : y194.length = t187.length - (8 : Int).toNat := (by rw [Ny194.out, aa'] <;> omega)
  rw [show (t187).drop (8 : Int).toNat = y194 from Ny194.out.symm] at hr97
  replace hr97 : Kd.C (Kd.int .u8) _ A97 y194.length y194 := (by rw [hA97]; exact hr97)
  rw [← hy97, ← hA97, ← hc97] at hcut97
  have HR197 := ac' hr97
  have HC197 := ac' (show y194.length ≤ c97 from by rw [hy97, hc97]; exact Nat.sub_le_sub_right hroom97 _)
  clear hr97 hC97 hroom97 hi097 hsz97 hc97
  have KY97 := ac' hy97
  have KA97 := ac' hA97
  clear hy97 hA97
  have KL97 := ac' (show 8 ≤ t187.length from by omega)
  replace q97 := eq_true q97
  have q98 : (16 : Int) ≤ ((t187.length : Int) : Int) := of_decide_eq_true (by first | (with_reducible assumption) | assumption)
  obtain ⟨i098, hi098, _, hsz98, _⟩ := info_parts info5
  have hroom98 : t187.length ≤ co94 := (Kd.R_reads' HO189.out).2.1
  have hC98 : Kd.C (Kd.int .u8) _ Ao94 t187.length t187 := (Kd.R_reads' HO189.out).2.2
  have hcut98 := cut_from (P := Try.prog) 22 5 .i64 Try.underlying22 hi098 1 hsz98 Ao94 t187.length co94 16 (by omega) q98
  have hr98 := Kd.C_drop (m := (16 : Int).toNat) (c := co94) hC98 (by omega) hroom98
  obtain ⟨A98, hA98⟩ : ∃ A1, A1 = (if co94 = (16 : Int).toNat then Ao94 else (Ao94 : Option Addr).map (·.add ((16 : Int).toNat * 1))) := ⟨_, rfl⟩
  obtain ⟨c98, hc98⟩ : ∃ c1, c1 = co94 - (16 : Int).toNat := ⟨_, rfl⟩
  have hy98 : y199.length = t187.length - (16 : Int).toNat := (by rw [Ny199.out, aa'] <;> omega)
  rw [show (t187).drop (16 : Int).toNat = y199 from Ny199.out.symm] at hr98
  replace hr98 : Kd.C (Kd.int .u8) _ A98 y199.length y199 := (by rw [hA98]; exact hr98)
  rw [← hy98, ← hA98, ← hc98] at hcut98
  have HR202 := ac' hr98
  have HC202 := ac' (show y199.length ≤ c98 from by rw [hy98, hc98]; exact Nat.sub_le_sub_right hroom98 _)
  clear hr98 hC98 hroom98 hi098 hsz98 hc98
  have KY98 := ac' hy98
  have KA98 := ac' hA98
  clear hy98 hA98
  have KL98 := ac' (show 16 ≤ t187.length from by omega)
  replace q98 := eq_true q98
  refine start_ (n := 14) (S := fun w' => w'.cell? ⟨gb192, 0, none⟩ = some (.int .i64 t186) ∧ w'.cell? ⟨gb192, 1, none⟩ = some (.slice Ao94 t187.length co94)) (ds := []) #[Z,Z,Z,Z,Z,Z,Z,Z,Z,Z,Z,Z,Z,Z] (by kernel_rfl) rfl rfl ⟨(p' BK192.out 0).trans rfl, (p' BK192.out 1).trans rfl⟩ (fun hHeld => ?_); refine with_tabW snap_Decode.tab10 snap_Decode.bits10 (fun HT_ HW_ => ?_)
  generalize w95.drew = w96 at HO189 BK185 BK192 HB HR197 HR202 hHeld ⊢
  refine pure_ (i := 0) (N := some 35) (v := ?_) (a' := ?_) #[Y,Z,Z,Z,Z,Z,Z,Z,Z,Z,Z,Z,Z,Z] rfl rfl (any_of HT_.out (by kernel_rfl)) (fun _ _ _ h => h) (Or.inl ⟨by rfl, ?_⟩) ?_ ?_
  rotate_left
  · intro w'
    go_simp
    with_reducible rfl
  rotate_left
  · simp only [Act.put, s', u', v', i64_w, i32_w]
    rfl
  refine pure_ (i := 3) (N := some 38) (v := ?_) (a' := ?_) #[Y,Z,Z,Y,Z,Z,Z,Z,Z,Z,Z,Z,Z,Z] rfl rfl (any_of HT_.out (by kernel_rfl)) (fun _ _ _ h => h) (Or.inl ⟨by rfl, ?_⟩) ?_ ?_
  rotate_left
  · intro w'
    go_simp
    with_reducible rfl
  rotate_left
  · simp only [Act.put, s', u', v', i64_w, i32_w]
    rfl
  refine pure_ (i := 7) (N := some 42) (v := ?_) (a' := ?_) #[Y,Z,Z,Y,Z,Z,Z,Y,Z,Z,Z,Z,Z,Z] rfl rfl (any_of HT_.out (by kernel_rfl)) (fun _ _ _ h => h) (Or.inl ⟨by rfl, ?_⟩) ?_ ?_
  rotate_left
  · intro w'
    go_simp
    with_reducible rfl
  rotate_left
  · simp only [Act.put, s', u', v', i64_w, i32_w]
    rfl
  refine take_ (i := 1) (N := some 36) (v := ?_) (a' := ?_) #[Y,Y,Z,Y,Z,Z,Z,Y,Z,Z,Z,Z,Z,Z] rfl rfl (take_ofW HT_.out HW_.out (by kernel_rfl)) (fun _ _ _ h => h) (Or.inl ⟨by rfl, ?_⟩) hHeld ?_ ?_
  rotate_left
  · rintro w' ⟨s0, s1⟩
    go_simp
    with_reducible rfl
  rotate_left
  · simp only [Act.put, s', u', v', i64_w, i32_w]
    rfl
  refine take_ (i := 4) (N := some 39) (v := ?_) (a' := ?_) #[Y,Y,Z,Y,Y,Z,Z,Y,Z,Z,Z,Z,Z,Z] rfl rfl (take_ofW HT_.out HW_.out (by kernel_rfl)) (fun _ _ _ h => h) (Or.inl ⟨by rfl, ?_⟩) hHeld ?_ ?_
  rotate_left
  · rintro w' ⟨s0, s1⟩
    go_simp
    with_reducible rfl
  rotate_left
  · simp only [Act.put, s', u', v', i64_w, i32_w]
    rfl
  refine pure_ (i := 5) (N := some 40) (v := ?_) (a' := ?_) #[Y,Y,Z,Y,Y,Y,Z,Y,Z,Z,Z,Z,Z,Z] rfl rfl (any_of HT_.out (by kernel_rfl)) (fun _ _ _ h => h) (Or.inl ⟨by rfl, ?_⟩) ?_ ?_
  rotate_left
  · intro w'
    go_simp
    with_reducible rfl
  rotate_left
  · simp only [Act.put, s', u', v', i64_w, i32_w]
    rfl
  refine take_ (i := 8) (N := some 43) (v := ?_) (a' := ?_) #[Y,Y,Z,Y,Y,Y,Z,Y,Y,Z,Z,Z,Z,Z] rfl rfl (take_ofW HT_.out HW_.out (by kernel_rfl)) (fun _ _ _ h => h) (Or.inl ⟨by rfl, ?_⟩) hHeld ?_ ?_
  rotate_left
  · rintro w' ⟨s0, s1⟩
    go_simp
    with_reducible rfl
  rotate_left
  · simp only [Act.put, s', u', v', i64_w, i32_w]
    rfl
  refine pure_ (i := 9) (N := some 44) (v := ?_) (a' := ?_) #[Y,Y,Z,Y,Y,Y,Z,Y,Y,Y,Z,Z,Z,Z] rfl rfl (any_of HT_.out (by kernel_rfl)) (fun _ _ _ h => h) (Or.inl ⟨by rfl, ?_⟩) ?_ ?_
  rotate_left
  · intro w'
    go_simp
    with_reducible rfl
  rotate_left
  · simp only [Act.put, s', u', v', i64_w, i32_w]
    rfl
  refine join_ (σ := Value × Nat) 1 #[Y,Y,Y,Y,Y,Y,Y,Y,Y,Y,Y,Y,Y,Z] (fun s_ => [(37, .int .i64 t193), (41, .int .i64 t198), (45, s_.1), (7, .pointer (some ⟨s_.2, 0, none⟩)), (46, .agg #[.int .i64 t193, .int .i64 t198, s_.1])]) (fun s_ w' => (w'.cell? ⟨gb192, 0, none⟩ = some (.int .i64 t186) ∧ w'.cell? ⟨gb192, 1, none⟩ = some (.slice Ao94 t187.length co94)) ∧ (Kd.R (Kd.int .u8) 5 w' w.heap.size (fun k_ => some k_ ≠ (s_.1 : Value).ownBlock) (.slice Ao94 t187.length co94) t187) ∧ (Kd.R (Kd.int .u8) 5 w' w.heap.size (fun k_ => some k_ ≠ (.slice Ao94 t187.length co94 : Value).ownBlock) s_.1 t203) ∧ (w'.heap[gb185]? = some (.cells #[.int .i64 0, .int .i64 0, .slice none 0 0] 25 (0, 0))) ∧ (w'.heap[gb192]? = some (.cells #[.int .i64 t186, .slice Ao94 t187.length co94] 80 (0, 0))) ∧ (w'.heap[s_.2]? = some (.cells #[.int .i64 0, .int .i64 0, .slice none 0 0] 25 (0, 0))) ∧ (w.heap.size ≤ s_.2) ∧ (w.heap.size ≤ s_.2) ∧ (gb185 ≠ s_.2) ∧ (s_.2 ≠ gb185) ∧ (gb192 ≠ s_.2) ∧ (s_.2 ≠ gb192) ∧ (Below w.heap.size w w')) ?_ ?_
  rotate_left
  · intro hCont
    refine two_ (i := 2) (j := 12) (Ni := some 37) (Nj := some 7) #[Y,Y,Y,Y,Y,Y,Z,Y,Y,Y,Z,Z,Z,Z] #[Y,Y,Z,Y,Y,Y,Z,Y,Y,Y,Z,Z,Y,Z] rfl rfl rfl rfl (two_of HT_.out (by kernel_rfl)) (by decide) (by decide) (fun K hK => ?_) (fun K hK => ?_)
    · skip
      refine goes_ Try.func45 (by kernel_rfl) rfl #[.slice Ao94 t187.length co94] (by rfl) rfl rfl (by (try simp only [x', y', z']); first | done | rfl | (simp only [aa', ab']; rfl)) ?_
      with_reducible refine (snap_number.calls k _ _ t187 t193 _ ?side1 ?side2 A14.out).mono ?_
      (case side1 => repeat (first | exact (Kd.R_reads' HO189.out).2.2 | (with_reducible refine k' ?_ _) | (with_reducible refine j' ?_ _) | (with_reducible refine l' ?_)))
      (case side2 => exact (Kd.R_reads' HO189.out).2.1)
      rintro e w99 ⟨rfl, hb⟩
      refine ⟨_, rfl, ?_⟩
      have n0_ := ac' (Kd.R_below (by (with_reducible repeat (first | apply o' | apply n' | apply q')); exact HO189.out) hb)
      have n1_ := ac' (m' (g := gb185) (o := .cells #[.int .i64 0, .int .i64 0, .slice none 0 0] 25 (0, 0)) (by (with_reducible repeat (first | apply b' | apply e' | apply c')); exact BK185.out) hb)
      have n2_ := ac' (m' (g := gb192) (o := .cells #[.int .i64 t186, .slice Ao94 t187.length co94] 80 (0, 0)) (by (with_reducible repeat (first | apply b' | apply e' | apply c')); exact BK192.out) hb)
      have n3_ := ac' (r' (by repeat (first | (with_reducible exact HR197.out) | (with_reducible refine k' ?_ _) | (with_reducible refine j' ?_ _) | (with_reducible refine l' ?_) | exact HR197.out)) hb)
      have n4_ := ac' (r' (by repeat (first | (with_reducible exact HR202.out) | (with_reducible refine k' ?_ _) | (with_reducible refine j' ?_ _) | (with_reducible refine l' ?_) | exact HR202.out)) hb)
      have n5_ := ac' (below_step (by repeat (first | (with_reducible first | exact HB.out | apply h' | apply f' | apply g' | refine d' ?_ GE185.out | refine d' ?_ GE192.out) | exact HB.out)) hb)
      clear HO189
      clear BK185
      clear BK192
      clear HR197
      clear HR202
      clear HB
      have HO189 := n0_
      have BK185 := n1_
      have BK192 := n2_
      have HR197 := n3_
      have HR202 := n4_
      have HB := n5_
      clear n0_ n1_ n2_ n3_ n4_ n5_
      (try clear hb)
      (try clear hb2)
      (try clear hk)
      (try clear hi)
      refine hK.out _ _ ⟨(p' BK192.out 0).trans rfl, (p' BK192.out 1).trans rfl⟩ (fun hHeld => ?_)
      clear hK K
      refine norm_ (a' := ?_) ?_ ?_
      rotate_left
      · show Act.put _ (some 37) _ = _
        simp only [Act.put, s', u', v', i64_w, i32_w]
        rfl
      refine two_ (i := 6) (j := 12) (Ni := some 41) (Nj := some 7) #[Y,Y,Y,Y,Y,Y,Y,Y,Y,Y,Z,Z,Z,Z] #[Y,Y,Y,Y,Y,Y,Z,Y,Y,Y,Z,Z,Y,Z] rfl rfl rfl rfl (two_of HT_.out (by kernel_rfl)) (by decide) (by decide) (fun K hK => ?_) (fun K hK => ?_)
      · skip
        refine goes_ Try.func45 (by kernel_rfl) rfl #[.slice A97 y194.length c97] (by rfl) rfl rfl (by (try simp only [x', y', z']); first | done | rfl | (simp only [aa', ab']; rfl)) ?_
        with_reducible refine (snap_number.calls k _ _ y194 t198 _ ?side1 ?side2 A16.out).mono ?_
        (case side1 => repeat (first | exact (by repeat (first | (with_reducible exact HR197.out) | (with_reducible refine k' ?_ _) | (with_reducible refine j' ?_ _) | (with_reducible refine l' ?_) | exact HR197.out)) | (with_reducible refine k' ?_ _) | (with_reducible refine j' ?_ _) | (with_reducible refine l' ?_)))
        (case side2 => exact HC197.out)
        rintro e w100 ⟨rfl, hb⟩
        refine ⟨_, rfl, ?_⟩
        have n0_ := ac' (Kd.R_below (by (with_reducible repeat (first | apply o' | apply n' | apply q')); exact HO189.out) hb)
        have n1_ := ac' (m' (g := gb185) (o := .cells #[.int .i64 0, .int .i64 0, .slice none 0 0] 25 (0, 0)) (by (with_reducible repeat (first | apply b' | apply e' | apply c')); exact BK185.out) hb)
        have n2_ := ac' (m' (g := gb192) (o := .cells #[.int .i64 t186, .slice Ao94 t187.length co94] 80 (0, 0)) (by (with_reducible repeat (first | apply b' | apply e' | apply c')); exact BK192.out) hb)
        have n3_ := ac' (r' (by repeat (first | (with_reducible exact HR197.out) | (with_reducible refine k' ?_ _) | (with_reducible refine j' ?_ _) | (with_reducible refine l' ?_) | exact HR197.out)) hb)
        have n4_ := ac' (r' (by repeat (first | (with_reducible exact HR202.out) | (with_reducible refine k' ?_ _) | (with_reducible refine j' ?_ _) | (with_reducible refine l' ?_) | exact HR202.out)) hb)
        have n5_ := ac' (below_step (by repeat (first | (with_reducible first | exact HB.out | apply h' | apply f' | apply g' | refine d' ?_ GE185.out | refine d' ?_ GE192.out) | exact HB.out)) hb)
        clear HO189
        clear BK185
        clear BK192
        clear HR197
        clear HR202
        clear HB
        have HO189 := n0_
        have BK185 := n1_
        have BK192 := n2_
        have HR197 := n3_
        have HR202 := n4_
        have HB := n5_
        clear n0_ n1_ n2_ n3_ n4_ n5_
        (try clear hb)
        (try clear hb2)
        (try clear hk)
        (try clear hi)
        refine hK.out _ _ ⟨(p' BK192.out 0).trans rfl, (p' BK192.out 1).trans rfl⟩ (fun hHeld => ?_)
        clear hK K
        refine norm_ (a' := ?_) ?_ ?_
        rotate_left
        · show Act.put _ (some 41) _ = _
          simp only [Act.put, s', u', v', i64_w, i32_w]
          rfl
        refine two_ (i := 10) (j := 12) (Ni := some 45) (Nj := some 7) #[Y,Y,Y,Y,Y,Y,Y,Y,Y,Y,Y,Z,Z,Z] #[Y,Y,Y,Y,Y,Y,Y,Y,Y,Y,Z,Z,Y,Z] rfl rfl rfl rfl (two_of HT_.out (by kernel_rfl)) (by decide) (by decide) (fun K hK => ?_) (fun K hK => ?_)
        · skip
          refine goes_ Try.func46 (by kernel_rfl) rfl #[.slice A98 y199.length c98] (by rfl) rfl rfl (by (try simp only [x', y', z']); first | done | rfl | (simp only [aa', ab']; rfl)) ?_
          with_reducible refine (bytes_Clone.calls _ _ y199 t203 _ ?side1 ?side2 A18.out).mono ?_
          (case side1 => repeat (first | exact (by repeat (first | (with_reducible exact HR202.out) | (with_reducible refine k' ?_ _) | (with_reducible refine j' ?_ _) | (with_reducible refine l' ?_) | exact HR202.out)) | (with_reducible refine k' ?_ _) | (with_reducible refine j' ?_ _) | (with_reducible refine l' ?_)))
          (case side2 => exact HC202.out)
          rintro e w101 ⟨v204, rfl, ho0, hb⟩
          refine ⟨_, rfl, ?_⟩
          have n0_ := ac' (Kd.R_elder' (by (with_reducible repeat (first | apply o' | apply n' | apply q')); exact HO189.out) (Kd.R_base ho0) hb)
          have n1_ := ac' (Kd.R_lower (Kd.R_new' ho0 (Kd.R_lt (by (with_reducible repeat (first | apply o' | apply n' | apply q')); exact HO189.out))) (below_size (by repeat (first | (with_reducible first | exact HB.out | apply h' | apply f' | apply g' | refine d' ?_ GE185.out | refine d' ?_ GE192.out) | exact HB.out))))
          have n2_ := ac' (m' (g := gb185) (o := .cells #[.int .i64 0, .int .i64 0, .slice none 0 0] 25 (0, 0)) (by (with_reducible repeat (first | apply b' | apply e' | apply c')); exact BK185.out) hb)
          have n3_ := ac' (m' (g := gb192) (o := .cells #[.int .i64 t186, .slice Ao94 t187.length co94] 80 (0, 0)) (by (with_reducible repeat (first | apply b' | apply e' | apply c')); exact BK192.out) hb)
          have n4_ := ac' (r' (by repeat (first | (with_reducible exact HR197.out) | (with_reducible refine k' ?_ _) | (with_reducible refine j' ?_ _) | (with_reducible refine l' ?_) | exact HR197.out)) hb)
          have n5_ := ac' (r' (by repeat (first | (with_reducible exact HR202.out) | (with_reducible refine k' ?_ _) | (with_reducible refine j' ?_ _) | (with_reducible refine l' ?_) | exact HR202.out)) hb)
          have n6_ := ac' (below_step (by repeat (first | (with_reducible first | exact HB.out | apply h' | apply f' | apply g' | refine d' ?_ GE185.out | refine d' ?_ GE192.out) | exact HB.out)) hb)
          clear HO189
          clear BK185
          clear BK192
          clear HR197
          clear HR202
          clear HB
          have HO189 := n0_
          have HO205 := n1_
          have BK185 := n2_
          have BK192 := n3_
          have HR197 := n4_
          have HR202 := n5_
          have HB := n6_
          clear n0_ n1_ n2_ n3_ n4_ n5_ n6_
          (try clear hb)
          (try clear hb2)
          (try clear hk)
          (try clear hi)
          (try clear ho0)
          obtain ⟨Ao102, co102, eo102⟩ := Kd.R_slice HO205.out
          (first | subst eo102 | (injection eo102 with f1_ f2_ f3_; have f4_ := f1_.symm; have f5_ := f3_.symm; clear f1_ f2_ f3_; subst f4_; subst f5_))
          refine hK.out _ _ ⟨(p' BK192.out 0).trans rfl, (p' BK192.out 1).trans rfl⟩ (fun hHeld => ?_)
          clear hK K
          refine norm_ (a' := ?_) ?_ ?_
          rotate_left
          · show Act.put _ (some 45) _ = _
            simp only [Act.put, s', u', v', i64_w, i32_w]
            rfl
          refine pure_ (i := 11) (N := some 46) (v := ?_) (a' := ?_) #[Y,Y,Y,Y,Y,Y,Y,Y,Y,Y,Y,Y,Z,Z] rfl rfl (any_of HT_.out (by kernel_rfl)) (fun _ _ _ h => h) (Or.inl ⟨by rfl, ?_⟩) ?_ ?_
          rotate_left
          · intro w'
            go_simp
            with_reducible rfl
          rotate_left
          · simp only [Act.put, s', u', v', i64_w, i32_w]
            rfl
          refine one_ (i := 12) (N := some 7) #[Y,Y,Y,Y,Y,Y,Y,Y,Y,Y,Y,Y,Y,Z] rfl rfl (one_of HT_.out (by kernel_rfl)) (by decide) (fun K hK => ?_)
          refine box_step ?hg (N := 7) ?hd (cs := #[.int .i64 0, .int .i64 0, .slice none 0 0]) (t := 25) ?hr ?_; (case hd => rfl); (case hg => rfl); (case hr => first | (go_simp; done) | (go_simp; rfl))
          intro gb206 hg w103 hbox hb
          have n0_ := ac' (Kd.R_below (by (with_reducible repeat (first | apply o' | apply n' | apply q')); exact HO189.out) hb)
          have n1_ := ac' (Kd.R_below (by (with_reducible repeat (first | apply o' | apply n' | apply q')); exact HO205.out) hb)
          have n2_ := ac' (m' (g := gb185) (o := .cells #[.int .i64 0, .int .i64 0, .slice none 0 0] 25 (0, 0)) (by (with_reducible repeat (first | apply b' | apply e' | apply c')); exact BK185.out) hb)
          have n3_ := ac' (m' (g := gb192) (o := .cells #[.int .i64 t186, .slice Ao94 t187.length co94] 80 (0, 0)) (by (with_reducible repeat (first | apply b' | apply e' | apply c')); exact BK192.out) hb)
          have n4_ := ac' (r' (by repeat (first | (with_reducible exact HR197.out) | (with_reducible refine k' ?_ _) | (with_reducible refine j' ?_ _) | (with_reducible refine l' ?_) | exact HR197.out)) hb)
          have n5_ := ac' (r' (by repeat (first | (with_reducible exact HR202.out) | (with_reducible refine k' ?_ _) | (with_reducible refine j' ?_ _) | (with_reducible refine l' ?_) | exact HR202.out)) hb)
          have n6_ := ac' (below_step (by repeat (first | (with_reducible first | exact HB.out | apply h' | apply f' | apply g' | refine d' ?_ GE185.out | refine d' ?_ GE192.out) | exact HB.out)) hb)
          have n7_ := ac' (hbox)
          have n8_ := ac' ((by rw [hg]; exact (below_size (by repeat (first | (with_reducible first | exact HB.out | apply h' | apply f' | apply g' | refine d' ?_ GE185.out | refine d' ?_ GE192.out) | exact HB.out))) : w.heap.size ≤ gb206))
          have n9_ := ac' ((by rw [hg]; exact (below_size (by repeat (first | (with_reducible first | exact HB.out | apply h' | apply f' | apply g' | refine d' ?_ GE185.out | refine d' ?_ GE192.out) | exact HB.out))) : w.heap.size ≤ gb206))
          have n10_ := ac' ((by rw [hg]; exact Nat.ne_of_lt (blk_lt (g := gb185) (o := .cells #[.int .i64 0, .int .i64 0, .slice none 0 0] 25 (0, 0)) (by (with_reducible repeat (first | apply b' | apply e' | apply c')); exact BK185.out)) : gb185 ≠ gb206))
          have n11_ := ac' ((by rw [hg]; exact Nat.ne_of_gt (blk_lt (g := gb185) (o := .cells #[.int .i64 0, .int .i64 0, .slice none 0 0] 25 (0, 0)) (by (with_reducible repeat (first | apply b' | apply e' | apply c')); exact BK185.out)) : gb206 ≠ gb185))
          have n12_ := ac' ((by rw [hg]; exact Nat.ne_of_lt (blk_lt (g := gb192) (o := .cells #[.int .i64 t186, .slice Ao94 t187.length co94] 80 (0, 0)) (by (with_reducible repeat (first | apply b' | apply e' | apply c')); exact BK192.out)) : gb192 ≠ gb206))
          have n13_ := ac' ((by rw [hg]; exact Nat.ne_of_gt (blk_lt (g := gb192) (o := .cells #[.int .i64 t186, .slice Ao94 t187.length co94] 80 (0, 0)) (by (with_reducible repeat (first | apply b' | apply e' | apply c')); exact BK192.out)) : gb206 ≠ gb192))
          clear HO189
          clear HO205
          clear BK185
          clear BK192
          clear HR197
          clear HR202
          clear HB
          have HO189 := n0_
          have HO205 := n1_
          have BK185 := n2_
          have BK192 := n3_
          have HR197 := n4_
          have HR202 := n5_
          have HB := n6_
          have BK206 := n7_
          have GW206 := n8_
          have GE206 := n9_
          have NB185_206 := n10_
          have NB206_185 := n11_
          have NB192_206 := n12_
          have NB206_192 := n13_
          clear n0_ n1_ n2_ n3_ n4_ n5_ n6_ n7_ n8_ n9_ n10_ n11_ n12_ n13_
          clear hb hbox hg
          refine hK.out _ _ ⟨(p' BK192.out 0).trans rfl, (p' BK192.out 1).trans rfl⟩ (fun hHeld => ?_)
          clear hK K
          refine norm_ (a' := ?_) ?_ ?_
          rotate_left
          · show Act.put _ (some 7) _ = _
            simp only [Act.put, s', u', v', i64_w, i32_w]
            rfl
          exact norm_ (by simp only [putAll, Act.put, s', u', v']) (hCont (.slice Ao102 t203.length co102, gb206) _ ⟨hHeld, (by (with_reducible repeat (first | apply o' | apply n' | apply q')); exact Kd.R_mono HO189.out (fun _ hk => hk.2)), (by (with_reducible repeat (first | apply o' | apply n' | apply q')); exact Kd.R_mono HO205.out (fun _ hk => hk.2)), (by (with_reducible repeat (first | apply b' | apply e' | apply c')); exact BK185.out), (by (with_reducible repeat (first | apply b' | apply e' | apply c')); exact BK192.out), (by (with_reducible repeat (first | apply b' | apply e' | apply c')); exact BK206.out), GW206.out, GE206.out, NB185_206.out, NB206_185.out, NB192_206.out, NB206_192.out, (by repeat (first | (with_reducible first | exact HB.out | apply h' | apply f' | apply g' | refine d' ?_ GE185.out | refine d' ?_ GE192.out | refine d' ?_ GE206.out) | exact HB.out))⟩)
        · skip
          refine box_step ?hg (N := 7) ?hd (cs := #[.int .i64 0, .int .i64 0, .slice none 0 0]) (t := 25) ?hr ?_; (case hd => rfl); (case hg => rfl); (case hr => first | (go_simp; done) | (go_simp; rfl))
          intro gb206 hg w101 hbox hb
          have n0_ := ac' (Kd.R_below (by (with_reducible repeat (first | apply o' | apply n' | apply q')); exact HO189.out) hb)
          have n1_ := ac' (m' (g := gb185) (o := .cells #[.int .i64 0, .int .i64 0, .slice none 0 0] 25 (0, 0)) (by (with_reducible repeat (first | apply b' | apply e' | apply c')); exact BK185.out) hb)
          have n2_ := ac' (m' (g := gb192) (o := .cells #[.int .i64 t186, .slice Ao94 t187.length co94] 80 (0, 0)) (by (with_reducible repeat (first | apply b' | apply e' | apply c')); exact BK192.out) hb)
          have n3_ := ac' (r' (by repeat (first | (with_reducible exact HR197.out) | (with_reducible refine k' ?_ _) | (with_reducible refine j' ?_ _) | (with_reducible refine l' ?_) | exact HR197.out)) hb)
          have n4_ := ac' (r' (by repeat (first | (with_reducible exact HR202.out) | (with_reducible refine k' ?_ _) | (with_reducible refine j' ?_ _) | (with_reducible refine l' ?_) | exact HR202.out)) hb)
          have n5_ := ac' (below_step (by repeat (first | (with_reducible first | exact HB.out | apply h' | apply f' | apply g' | refine d' ?_ GE185.out | refine d' ?_ GE192.out) | exact HB.out)) hb)
          have n6_ := ac' (hbox)
          have n7_ := ac' ((by rw [hg]; exact (below_size (by repeat (first | (with_reducible first | exact HB.out | apply h' | apply f' | apply g' | refine d' ?_ GE185.out | refine d' ?_ GE192.out) | exact HB.out))) : w.heap.size ≤ gb206))
          have n8_ := ac' ((by rw [hg]; exact (below_size (by repeat (first | (with_reducible first | exact HB.out | apply h' | apply f' | apply g' | refine d' ?_ GE185.out | refine d' ?_ GE192.out) | exact HB.out))) : w.heap.size ≤ gb206))
          have n9_ := ac' ((by rw [hg]; exact Nat.ne_of_lt (blk_lt (g := gb185) (o := .cells #[.int .i64 0, .int .i64 0, .slice none 0 0] 25 (0, 0)) (by (with_reducible repeat (first | apply b' | apply e' | apply c')); exact BK185.out)) : gb185 ≠ gb206))
          have n10_ := ac' ((by rw [hg]; exact Nat.ne_of_gt (blk_lt (g := gb185) (o := .cells #[.int .i64 0, .int .i64 0, .slice none 0 0] 25 (0, 0)) (by (with_reducible repeat (first | apply b' | apply e' | apply c')); exact BK185.out)) : gb206 ≠ gb185))
          have n11_ := ac' ((by rw [hg]; exact Nat.ne_of_lt (blk_lt (g := gb192) (o := .cells #[.int .i64 t186, .slice Ao94 t187.length co94] 80 (0, 0)) (by (with_reducible repeat (first | apply b' | apply e' | apply c')); exact BK192.out)) : gb192 ≠ gb206))
          have n12_ := ac' ((by rw [hg]; exact Nat.ne_of_gt (blk_lt (g := gb192) (o := .cells #[.int .i64 t186, .slice Ao94 t187.length co94] 80 (0, 0)) (by (with_reducible repeat (first | apply b' | apply e' | apply c')); exact BK192.out)) : gb206 ≠ gb192))
          clear HO189
          clear BK185
          clear BK192
          clear HR197
          clear HR202
          clear HB
          have HO189 := n0_
          have BK185 := n1_
          have BK192 := n2_
          have HR197 := n3_
          have HR202 := n4_
          have HB := n5_
          have BK206 := n6_
          have GW206 := n7_
          have GE206 := n8_
          have NB185_206 := n9_
          have NB206_185 := n10_
          have NB192_206 := n11_
          have NB206_192 := n12_
          clear n0_ n1_ n2_ n3_ n4_ n5_ n6_ n7_ n8_ n9_ n10_ n11_ n12_
          clear hb hbox hg
          refine hK.out _ _ ⟨(p' BK192.out 0).trans rfl, (p' BK192.out 1).trans rfl⟩ (fun hHeld => ?_)
          clear hK K
          refine norm_ (a' := ?_) ?_ ?_
          rotate_left
          · show Act.put _ (some 7) _ = _
            simp only [Act.put, s', u', v', i64_w, i32_w]
            rfl
          refine one_ (i := 10) (N := some 45) #[Y,Y,Y,Y,Y,Y,Y,Y,Y,Y,Y,Z,Y,Z] rfl rfl (one_of HT_.out (by kernel_rfl)) (by decide) (fun K hK => ?_)
          refine goes_ Try.func46 (by kernel_rfl) rfl #[.slice A98 y199.length c98] (by rfl) rfl rfl (by (try simp only [x', y', z']); first | done | rfl | (simp only [aa', ab']; rfl)) ?_
          with_reducible refine (bytes_Clone.calls _ _ y199 t203 _ ?side1 ?side2 A18.out).mono ?_
          (case side1 => repeat (first | exact (by repeat (first | (with_reducible exact HR202.out) | (with_reducible refine k' ?_ _) | (with_reducible refine j' ?_ _) | (with_reducible refine l' ?_) | exact HR202.out)) | (with_reducible refine k' ?_ _) | (with_reducible refine j' ?_ _) | (with_reducible refine l' ?_)))
          (case side2 => exact HC202.out)
          rintro e w102 ⟨v204, rfl, ho0, hb⟩
          refine ⟨_, rfl, ?_⟩
          have n0_ := ac' (Kd.R_elder' (by (with_reducible repeat (first | apply o' | apply n' | apply q')); exact HO189.out) (Kd.R_base ho0) hb)
          have n1_ := ac' (Kd.R_lower (Kd.R_new' ho0 (Kd.R_lt (by (with_reducible repeat (first | apply o' | apply n' | apply q')); exact HO189.out))) (below_size (by repeat (first | (with_reducible first | exact HB.out | apply h' | apply f' | apply g' | refine d' ?_ GE185.out | refine d' ?_ GE192.out | refine d' ?_ GE206.out) | exact HB.out))))
          have n2_ := ac' (m' (g := gb185) (o := .cells #[.int .i64 0, .int .i64 0, .slice none 0 0] 25 (0, 0)) (by (with_reducible repeat (first | apply b' | apply e' | apply c')); exact BK185.out) hb)
          have n3_ := ac' (m' (g := gb192) (o := .cells #[.int .i64 t186, .slice Ao94 t187.length co94] 80 (0, 0)) (by (with_reducible repeat (first | apply b' | apply e' | apply c')); exact BK192.out) hb)
          have n4_ := ac' (r' (by repeat (first | (with_reducible exact HR197.out) | (with_reducible refine k' ?_ _) | (with_reducible refine j' ?_ _) | (with_reducible refine l' ?_) | exact HR197.out)) hb)
          have n5_ := ac' (r' (by repeat (first | (with_reducible exact HR202.out) | (with_reducible refine k' ?_ _) | (with_reducible refine j' ?_ _) | (with_reducible refine l' ?_) | exact HR202.out)) hb)
          have n6_ := ac' (m' (g := gb206) (o := .cells #[.int .i64 0, .int .i64 0, .slice none 0 0] 25 (0, 0)) (by (with_reducible repeat (first | apply b' | apply e' | apply c')); exact BK206.out) hb)
          have n7_ := ac' (below_step (by repeat (first | (with_reducible first | exact HB.out | apply h' | apply f' | apply g' | refine d' ?_ GE185.out | refine d' ?_ GE192.out | refine d' ?_ GE206.out) | exact HB.out)) hb)
          clear HO189
          clear BK185
          clear BK192
          clear HR197
          clear HR202
          clear BK206
          clear HB
          have HO189 := n0_
          have HO205 := n1_
          have BK185 := n2_
          have BK192 := n3_
          have HR197 := n4_
          have HR202 := n5_
          have BK206 := n6_
          have HB := n7_
          clear n0_ n1_ n2_ n3_ n4_ n5_ n6_ n7_
          (try clear hb)
          (try clear hb2)
          (try clear hk)
          (try clear hi)
          (try clear ho0)
          obtain ⟨Ao103, co103, eo103⟩ := Kd.R_slice HO205.out
          (first | subst eo103 | (injection eo103 with f1_ f2_ f3_; have f4_ := f1_.symm; have f5_ := f3_.symm; clear f1_ f2_ f3_; subst f4_; subst f5_))
          refine hK.out _ _ ⟨(p' BK192.out 0).trans rfl, (p' BK192.out 1).trans rfl⟩ (fun hHeld => ?_)
          clear hK K
          refine norm_ (a' := ?_) ?_ ?_
          rotate_left
          · show Act.put _ (some 45) _ = _
            simp only [Act.put, s', u', v', i64_w, i32_w]
            rfl
          refine pure_ (i := 11) (N := some 46) (v := ?_) (a' := ?_) #[Y,Y,Y,Y,Y,Y,Y,Y,Y,Y,Y,Y,Y,Z] rfl rfl (any_of HT_.out (by kernel_rfl)) (fun _ _ _ h => h) (Or.inl ⟨by rfl, ?_⟩) ?_ ?_
          rotate_left
          · intro w'
            go_simp
            with_reducible rfl
          rotate_left
          · simp only [Act.put, s', u', v', i64_w, i32_w]
            rfl
          exact norm_ (by simp only [putAll, Act.put, s', u', v']) (hCont (.slice Ao103 t203.length co103, gb206) _ ⟨hHeld, (by (with_reducible repeat (first | apply o' | apply n' | apply q')); exact Kd.R_mono HO189.out (fun _ hk => hk.2)), (by (with_reducible repeat (first | apply o' | apply n' | apply q')); exact Kd.R_mono HO205.out (fun _ hk => hk.2)), (by (with_reducible repeat (first | apply b' | apply e' | apply c')); exact BK185.out), (by (with_reducible repeat (first | apply b' | apply e' | apply c')); exact BK192.out), (by (with_reducible repeat (first | apply b' | apply e' | apply c')); exact BK206.out), GW206.out, GE206.out, NB185_206.out, NB206_185.out, NB192_206.out, NB206_192.out, (by repeat (first | (with_reducible first | exact HB.out | apply h' | apply f' | apply g' | refine d' ?_ GE185.out | refine d' ?_ GE192.out | refine d' ?_ GE206.out) | exact HB.out))⟩)
      · skip
        refine box_step ?hg (N := 7) ?hd (cs := #[.int .i64 0, .int .i64 0, .slice none 0 0]) (t := 25) ?hr ?_; (case hd => rfl); (case hg => rfl); (case hr => first | (go_simp; done) | (go_simp; rfl))
        intro gb206 hg w100 hbox hb
        have n0_ := ac' (Kd.R_below (by (with_reducible repeat (first | apply o' | apply n' | apply q')); exact HO189.out) hb)
        have n1_ := ac' (m' (g := gb185) (o := .cells #[.int .i64 0, .int .i64 0, .slice none 0 0] 25 (0, 0)) (by (with_reducible repeat (first | apply b' | apply e' | apply c')); exact BK185.out) hb)
        have n2_ := ac' (m' (g := gb192) (o := .cells #[.int .i64 t186, .slice Ao94 t187.length co94] 80 (0, 0)) (by (with_reducible repeat (first | apply b' | apply e' | apply c')); exact BK192.out) hb)
        have n3_ := ac' (r' (by repeat (first | (with_reducible exact HR197.out) | (with_reducible refine k' ?_ _) | (with_reducible refine j' ?_ _) | (with_reducible refine l' ?_) | exact HR197.out)) hb)
        have n4_ := ac' (r' (by repeat (first | (with_reducible exact HR202.out) | (with_reducible refine k' ?_ _) | (with_reducible refine j' ?_ _) | (with_reducible refine l' ?_) | exact HR202.out)) hb)
        have n5_ := ac' (below_step (by repeat (first | (with_reducible first | exact HB.out | apply h' | apply f' | apply g' | refine d' ?_ GE185.out | refine d' ?_ GE192.out) | exact HB.out)) hb)
        have n6_ := ac' (hbox)
        have n7_ := ac' ((by rw [hg]; exact (below_size (by repeat (first | (with_reducible first | exact HB.out | apply h' | apply f' | apply g' | refine d' ?_ GE185.out | refine d' ?_ GE192.out) | exact HB.out))) : w.heap.size ≤ gb206))
        have n8_ := ac' ((by rw [hg]; exact (below_size (by repeat (first | (with_reducible first | exact HB.out | apply h' | apply f' | apply g' | refine d' ?_ GE185.out | refine d' ?_ GE192.out) | exact HB.out))) : w.heap.size ≤ gb206))
        have n9_ := ac' ((by rw [hg]; exact Nat.ne_of_lt (blk_lt (g := gb185) (o := .cells #[.int .i64 0, .int .i64 0, .slice none 0 0] 25 (0, 0)) (by (with_reducible repeat (first | apply b' | apply e' | apply c')); exact BK185.out)) : gb185 ≠ gb206))
        have n10_ := ac' ((by rw [hg]; exact Nat.ne_of_gt (blk_lt (g := gb185) (o := .cells #[.int .i64 0, .int .i64 0, .slice none 0 0] 25 (0, 0)) (by (with_reducible repeat (first | apply b' | apply e' | apply c')); exact BK185.out)) : gb206 ≠ gb185))
        have n11_ := ac' ((by rw [hg]; exact Nat.ne_of_lt (blk_lt (g := gb192) (o := .cells #[.int .i64 t186, .slice Ao94 t187.length co94] 80 (0, 0)) (by (with_reducible repeat (first | apply b' | apply e' | apply c')); exact BK192.out)) : gb192 ≠ gb206))
        have n12_ := ac' ((by rw [hg]; exact Nat.ne_of_gt (blk_lt (g := gb192) (o := .cells #[.int .i64 t186, .slice Ao94 t187.length co94] 80 (0, 0)) (by (with_reducible repeat (first | apply b' | apply e' | apply c')); exact BK192.out)) : gb206 ≠ gb192))
        clear HO189
        clear BK185
        clear BK192
        clear HR197
        clear HR202
        clear HB
        have HO189 := n0_
        have BK185 := n1_
        have BK192 := n2_
        have HR197 := n3_
        have HR202 := n4_
        have HB := n5_
        have BK206 := n6_
        have GW206 := n7_
        have GE206 := n8_
        have NB185_206 := n9_
        have NB206_185 := n10_
        have NB192_206 := n11_
        have NB206_192 := n12_
        clear n0_ n1_ n2_ n3_ n4_ n5_ n6_ n7_ n8_ n9_ n10_ n11_ n12_
        clear hb hbox hg
        refine hK.out _ _ ⟨(p' BK192.out 0).trans rfl, (p' BK192.out 1).trans rfl⟩ (fun hHeld => ?_)
        clear hK K
        refine norm_ (a' := ?_) ?_ ?_
        rotate_left
        · show Act.put _ (some 7) _ = _
          simp only [Act.put, s', u', v', i64_w, i32_w]
          rfl
        refine one_ (i := 6) (N := some 41) #[Y,Y,Y,Y,Y,Y,Y,Y,Y,Y,Z,Z,Y,Z] rfl rfl (one_of HT_.out (by kernel_rfl)) (by decide) (fun K hK => ?_)
        refine goes_ Try.func45 (by kernel_rfl) rfl #[.slice A97 y194.length c97] (by rfl) rfl rfl (by (try simp only [x', y', z']); first | done | rfl | (simp only [aa', ab']; rfl)) ?_
        with_reducible refine (snap_number.calls k _ _ y194 t198 _ ?side1 ?side2 A16.out).mono ?_
        (case side1 => repeat (first | exact (by repeat (first | (with_reducible exact HR197.out) | (with_reducible refine k' ?_ _) | (with_reducible refine j' ?_ _) | (with_reducible refine l' ?_) | exact HR197.out)) | (with_reducible refine k' ?_ _) | (with_reducible refine j' ?_ _) | (with_reducible refine l' ?_)))
        (case side2 => exact HC197.out)
        rintro e w101 ⟨rfl, hb⟩
        refine ⟨_, rfl, ?_⟩
        have n0_ := ac' (Kd.R_below (by (with_reducible repeat (first | apply o' | apply n' | apply q')); exact HO189.out) hb)
        have n1_ := ac' (m' (g := gb185) (o := .cells #[.int .i64 0, .int .i64 0, .slice none 0 0] 25 (0, 0)) (by (with_reducible repeat (first | apply b' | apply e' | apply c')); exact BK185.out) hb)
        have n2_ := ac' (m' (g := gb192) (o := .cells #[.int .i64 t186, .slice Ao94 t187.length co94] 80 (0, 0)) (by (with_reducible repeat (first | apply b' | apply e' | apply c')); exact BK192.out) hb)
        have n3_ := ac' (r' (by repeat (first | (with_reducible exact HR197.out) | (with_reducible refine k' ?_ _) | (with_reducible refine j' ?_ _) | (with_reducible refine l' ?_) | exact HR197.out)) hb)
        have n4_ := ac' (r' (by repeat (first | (with_reducible exact HR202.out) | (with_reducible refine k' ?_ _) | (with_reducible refine j' ?_ _) | (with_reducible refine l' ?_) | exact HR202.out)) hb)
        have n5_ := ac' (m' (g := gb206) (o := .cells #[.int .i64 0, .int .i64 0, .slice none 0 0] 25 (0, 0)) (by (with_reducible repeat (first | apply b' | apply e' | apply c')); exact BK206.out) hb)
        have n6_ := ac' (below_step (by repeat (first | (with_reducible first | exact HB.out | apply h' | apply f' | apply g' | refine d' ?_ GE185.out | refine d' ?_ GE192.out | refine d' ?_ GE206.out) | exact HB.out)) hb)
        clear HO189
        clear BK185
        clear BK192
        clear HR197
        clear HR202
        clear BK206
        clear HB
        have HO189 := n0_
        have BK185 := n1_
        have BK192 := n2_
        have HR197 := n3_
        have HR202 := n4_
        have BK206 := n5_
        have HB := n6_
        clear n0_ n1_ n2_ n3_ n4_ n5_ n6_
        (try clear hb)
        (try clear hb2)
        (try clear hk)
        (try clear hi)
        refine hK.out _ _ ⟨(p' BK192.out 0).trans rfl, (p' BK192.out 1).trans rfl⟩ (fun hHeld => ?_)
        clear hK K
        refine norm_ (a' := ?_) ?_ ?_
        rotate_left
        · show Act.put _ (some 41) _ = _
          simp only [Act.put, s', u', v', i64_w, i32_w]
          rfl
        refine one_ (i := 10) (N := some 45) #[Y,Y,Y,Y,Y,Y,Y,Y,Y,Y,Y,Z,Y,Z] rfl rfl (one_of HT_.out (by kernel_rfl)) (by decide) (fun K hK => ?_)
        refine goes_ Try.func46 (by kernel_rfl) rfl #[.slice A98 y199.length c98] (by rfl) rfl rfl (by (try simp only [x', y', z']); first | done | rfl | (simp only [aa', ab']; rfl)) ?_
        with_reducible refine (bytes_Clone.calls _ _ y199 t203 _ ?side1 ?side2 A18.out).mono ?_
        (case side1 => repeat (first | exact (by repeat (first | (with_reducible exact HR202.out) | (with_reducible refine k' ?_ _) | (with_reducible refine j' ?_ _) | (with_reducible refine l' ?_) | exact HR202.out)) | (with_reducible refine k' ?_ _) | (with_reducible refine j' ?_ _) | (with_reducible refine l' ?_)))
        (case side2 => exact HC202.out)
        rintro e w102 ⟨v204, rfl, ho0, hb⟩
        refine ⟨_, rfl, ?_⟩
        have n0_ := ac' (Kd.R_elder' (by (with_reducible repeat (first | apply o' | apply n' | apply q')); exact HO189.out) (Kd.R_base ho0) hb)
        have n1_ := ac' (Kd.R_lower (Kd.R_new' ho0 (Kd.R_lt (by (with_reducible repeat (first | apply o' | apply n' | apply q')); exact HO189.out))) (below_size (by repeat (first | (with_reducible first | exact HB.out | apply h' | apply f' | apply g' | refine d' ?_ GE185.out | refine d' ?_ GE192.out | refine d' ?_ GE206.out) | exact HB.out))))
        have n2_ := ac' (m' (g := gb185) (o := .cells #[.int .i64 0, .int .i64 0, .slice none 0 0] 25 (0, 0)) (by (with_reducible repeat (first | apply b' | apply e' | apply c')); exact BK185.out) hb)
        have n3_ := ac' (m' (g := gb192) (o := .cells #[.int .i64 t186, .slice Ao94 t187.length co94] 80 (0, 0)) (by (with_reducible repeat (first | apply b' | apply e' | apply c')); exact BK192.out) hb)
        have n4_ := ac' (r' (by repeat (first | (with_reducible exact HR197.out) | (with_reducible refine k' ?_ _) | (with_reducible refine j' ?_ _) | (with_reducible refine l' ?_) | exact HR197.out)) hb)
        have n5_ := ac' (r' (by repeat (first | (with_reducible exact HR202.out) | (with_reducible refine k' ?_ _) | (with_reducible refine j' ?_ _) | (with_reducible refine l' ?_) | exact HR202.out)) hb)
        have n6_ := ac' (m' (g := gb206) (o := .cells #[.int .i64 0, .int .i64 0, .slice none 0 0] 25 (0, 0)) (by (with_reducible repeat (first | apply b' | apply e' | apply c')); exact BK206.out) hb)
        have n7_ := ac' (below_step (by repeat (first | (with_reducible first | exact HB.out | apply h' | apply f' | apply g' | refine d' ?_ GE185.out | refine d' ?_ GE192.out | refine d' ?_ GE206.out) | exact HB.out)) hb)
        clear HO189
        clear BK185
        clear BK192
        clear HR197
        clear HR202
        clear BK206
        clear HB
        have HO189 := n0_
        have HO205 := n1_
        have BK185 := n2_
        have BK192 := n3_
        have HR197 := n4_
        have HR202 := n5_
        have BK206 := n6_
        have HB := n7_
        clear n0_ n1_ n2_ n3_ n4_ n5_ n6_ n7_
        (try clear hb)
        (try clear hb2)
        (try clear hk)
        (try clear hi)
        (try clear ho0)
        obtain ⟨Ao103, co103, eo103⟩ := Kd.R_slice HO205.out
        (first | subst eo103 | (injection eo103 with f1_ f2_ f3_; have f4_ := f1_.symm; have f5_ := f3_.symm; clear f1_ f2_ f3_; subst f4_; subst f5_))
        refine hK.out _ _ ⟨(p' BK192.out 0).trans rfl, (p' BK192.out 1).trans rfl⟩ (fun hHeld => ?_)
        clear hK K
        refine norm_ (a' := ?_) ?_ ?_
        rotate_left
        · show Act.put _ (some 45) _ = _
          simp only [Act.put, s', u', v', i64_w, i32_w]
          rfl
        refine pure_ (i := 11) (N := some 46) (v := ?_) (a' := ?_) #[Y,Y,Y,Y,Y,Y,Y,Y,Y,Y,Y,Y,Y,Z] rfl rfl (any_of HT_.out (by kernel_rfl)) (fun _ _ _ h => h) (Or.inl ⟨by rfl, ?_⟩) ?_ ?_
        rotate_left
        · intro w'
          go_simp
          with_reducible rfl
        rotate_left
        · simp only [Act.put, s', u', v', i64_w, i32_w]
          rfl
        exact norm_ (by simp only [putAll, Act.put, s', u', v']) (hCont (.slice Ao103 t203.length co103, gb206) _ ⟨hHeld, (by (with_reducible repeat (first | apply o' | apply n' | apply q')); exact Kd.R_mono HO189.out (fun _ hk => hk.2)), (by (with_reducible repeat (first | apply o' | apply n' | apply q')); exact Kd.R_mono HO205.out (fun _ hk => hk.2)), (by (with_reducible repeat (first | apply b' | apply e' | apply c')); exact BK185.out), (by (with_reducible repeat (first | apply b' | apply e' | apply c')); exact BK192.out), (by (with_reducible repeat (first | apply b' | apply e' | apply c')); exact BK206.out), GW206.out, GE206.out, NB185_206.out, NB206_185.out, NB192_206.out, NB206_192.out, (by repeat (first | (with_reducible first | exact HB.out | apply h' | apply f' | apply g' | refine d' ?_ GE185.out | refine d' ?_ GE192.out | refine d' ?_ GE206.out) | exact HB.out))⟩)
    · skip
      refine box_step ?hg (N := 7) ?hd (cs := #[.int .i64 0, .int .i64 0, .slice none 0 0]) (t := 25) ?hr ?_; (case hd => rfl); (case hg => rfl); (case hr => first | (go_simp; done) | (go_simp; rfl))
      intro gb206 hg w99 hbox hb
      have n0_ := ac' (Kd.R_below (by (with_reducible repeat (first | apply o' | apply n' | apply q')); exact HO189.out) hb)
      have n1_ := ac' (m' (g := gb185) (o := .cells #[.int .i64 0, .int .i64 0, .slice none 0 0] 25 (0, 0)) (by (with_reducible repeat (first | apply b' | apply e' | apply c')); exact BK185.out) hb)
      have n2_ := ac' (m' (g := gb192) (o := .cells #[.int .i64 t186, .slice Ao94 t187.length co94] 80 (0, 0)) (by (with_reducible repeat (first | apply b' | apply e' | apply c')); exact BK192.out) hb)
      have n3_ := ac' (r' (by repeat (first | (with_reducible exact HR197.out) | (with_reducible refine k' ?_ _) | (with_reducible refine j' ?_ _) | (with_reducible refine l' ?_) | exact HR197.out)) hb)
      have n4_ := ac' (r' (by repeat (first | (with_reducible exact HR202.out) | (with_reducible refine k' ?_ _) | (with_reducible refine j' ?_ _) | (with_reducible refine l' ?_) | exact HR202.out)) hb)
      have n5_ := ac' (below_step (by repeat (first | (with_reducible first | exact HB.out | apply h' | apply f' | apply g' | refine d' ?_ GE185.out | refine d' ?_ GE192.out) | exact HB.out)) hb)
      have n6_ := ac' (hbox)
      have n7_ := ac' ((by rw [hg]; exact (below_size (by repeat (first | (with_reducible first | exact HB.out | apply h' | apply f' | apply g' | refine d' ?_ GE185.out | refine d' ?_ GE192.out) | exact HB.out))) : w.heap.size ≤ gb206))
      have n8_ := ac' ((by rw [hg]; exact (below_size (by repeat (first | (with_reducible first | exact HB.out | apply h' | apply f' | apply g' | refine d' ?_ GE185.out | refine d' ?_ GE192.out) | exact HB.out))) : w.heap.size ≤ gb206))
      have n9_ := ac' ((by rw [hg]; exact Nat.ne_of_lt (blk_lt (g := gb185) (o := .cells #[.int .i64 0, .int .i64 0, .slice none 0 0] 25 (0, 0)) (by (with_reducible repeat (first | apply b' | apply e' | apply c')); exact BK185.out)) : gb185 ≠ gb206))
      have n10_ := ac' ((by rw [hg]; exact Nat.ne_of_gt (blk_lt (g := gb185) (o := .cells #[.int .i64 0, .int .i64 0, .slice none 0 0] 25 (0, 0)) (by (with_reducible repeat (first | apply b' | apply e' | apply c')); exact BK185.out)) : gb206 ≠ gb185))
      have n11_ := ac' ((by rw [hg]; exact Nat.ne_of_lt (blk_lt (g := gb192) (o := .cells #[.int .i64 t186, .slice Ao94 t187.length co94] 80 (0, 0)) (by (with_reducible repeat (first | apply b' | apply e' | apply c')); exact BK192.out)) : gb192 ≠ gb206))
      have n12_ := ac' ((by rw [hg]; exact Nat.ne_of_gt (blk_lt (g := gb192) (o := .cells #[.int .i64 t186, .slice Ao94 t187.length co94] 80 (0, 0)) (by (with_reducible repeat (first | apply b' | apply e' | apply c')); exact BK192.out)) : gb206 ≠ gb192))
      clear HO189
      clear BK185
      clear BK192
      clear HR197
      clear HR202
      clear HB
      have HO189 := n0_
      have BK185 := n1_
      have BK192 := n2_
      have HR197 := n3_
      have HR202 := n4_
      have HB := n5_
      have BK206 := n6_
      have GW206 := n7_
      have GE206 := n8_
      have NB185_206 := n9_
      have NB206_185 := n10_
      have NB192_206 := n11_
      have NB206_192 := n12_
      clear n0_ n1_ n2_ n3_ n4_ n5_ n6_ n7_ n8_ n9_ n10_ n11_ n12_
      clear hb hbox hg
      refine hK.out _ _ ⟨(p' BK192.out 0).trans rfl, (p' BK192.out 1).trans rfl⟩ (fun hHeld => ?_)
      clear hK K
      refine norm_ (a' := ?_) ?_ ?_
      rotate_left
      · show Act.put _ (some 7) _ = _
        simp only [Act.put, s', u', v', i64_w, i32_w]
        rfl
      refine one_ (i := 2) (N := some 37) #[Y,Y,Y,Y,Y,Y,Z,Y,Y,Y,Z,Z,Y,Z] rfl rfl (one_of HT_.out (by kernel_rfl)) (by decide) (fun K hK => ?_)
      refine goes_ Try.func45 (by kernel_rfl) rfl #[.slice Ao94 t187.length co94] (by rfl) rfl rfl (by (try simp only [x', y', z']); first | done | rfl | (simp only [aa', ab']; rfl)) ?_
      with_reducible refine (snap_number.calls k _ _ t187 t193 _ ?side1 ?side2 A14.out).mono ?_
      (case side1 => repeat (first | exact (Kd.R_reads' HO189.out).2.2 | (with_reducible refine k' ?_ _) | (with_reducible refine j' ?_ _) | (with_reducible refine l' ?_)))
      (case side2 => exact (Kd.R_reads' HO189.out).2.1)
      rintro e w100 ⟨rfl, hb⟩
      refine ⟨_, rfl, ?_⟩
      have n0_ := ac' (Kd.R_below (by (with_reducible repeat (first | apply o' | apply n' | apply q')); exact HO189.out) hb)
      have n1_ := ac' (m' (g := gb185) (o := .cells #[.int .i64 0, .int .i64 0, .slice none 0 0] 25 (0, 0)) (by (with_reducible repeat (first | apply b' | apply e' | apply c')); exact BK185.out) hb)
      have n2_ := ac' (m' (g := gb192) (o := .cells #[.int .i64 t186, .slice Ao94 t187.length co94] 80 (0, 0)) (by (with_reducible repeat (first | apply b' | apply e' | apply c')); exact BK192.out) hb)
      have n3_ := ac' (r' (by repeat (first | (with_reducible exact HR197.out) | (with_reducible refine k' ?_ _) | (with_reducible refine j' ?_ _) | (with_reducible refine l' ?_) | exact HR197.out)) hb)
      have n4_ := ac' (r' (by repeat (first | (with_reducible exact HR202.out) | (with_reducible refine k' ?_ _) | (with_reducible refine j' ?_ _) | (with_reducible refine l' ?_) | exact HR202.out)) hb)
      have n5_ := ac' (m' (g := gb206) (o := .cells #[.int .i64 0, .int .i64 0, .slice none 0 0] 25 (0, 0)) (by (with_reducible repeat (first | apply b' | apply e' | apply c')); exact BK206.out) hb)
      have n6_ := ac' (below_step (by repeat (first | (with_reducible first | exact HB.out | apply h' | apply f' | apply g' | refine d' ?_ GE185.out | refine d' ?_ GE192.out | refine d' ?_ GE206.out) | exact HB.out)) hb)
      clear HO189
      clear BK185
      clear BK192
      clear HR197
      clear HR202
      clear BK206
      clear HB
      have HO189 := n0_
      have BK185 := n1_
      have BK192 := n2_
      have HR197 := n3_
      have HR202 := n4_
      have BK206 := n5_
      have HB := n6_
      clear n0_ n1_ n2_ n3_ n4_ n5_ n6_
      (try clear hb)
      (try clear hb2)
      (try clear hk)
      (try clear hi)
      refine hK.out _ _ ⟨(p' BK192.out 0).trans rfl, (p' BK192.out 1).trans rfl⟩ (fun hHeld => ?_)
      clear hK K
      refine norm_ (a' := ?_) ?_ ?_
      rotate_left
      · show Act.put _ (some 37) _ = _
        simp only [Act.put, s', u', v', i64_w, i32_w]
        rfl
      refine one_ (i := 6) (N := some 41) #[Y,Y,Y,Y,Y,Y,Y,Y,Y,Y,Z,Z,Y,Z] rfl rfl (one_of HT_.out (by kernel_rfl)) (by decide) (fun K hK => ?_)
      refine goes_ Try.func45 (by kernel_rfl) rfl #[.slice A97 y194.length c97] (by rfl) rfl rfl (by (try simp only [x', y', z']); first | done | rfl | (simp only [aa', ab']; rfl)) ?_
      with_reducible refine (snap_number.calls k _ _ y194 t198 _ ?side1 ?side2 A16.out).mono ?_
      (case side1 => repeat (first | exact (by repeat (first | (with_reducible exact HR197.out) | (with_reducible refine k' ?_ _) | (with_reducible refine j' ?_ _) | (with_reducible refine l' ?_) | exact HR197.out)) | (with_reducible refine k' ?_ _) | (with_reducible refine j' ?_ _) | (with_reducible refine l' ?_)))
      (case side2 => exact HC197.out)
      rintro e w101 ⟨rfl, hb⟩
      refine ⟨_, rfl, ?_⟩
      have n0_ := ac' (Kd.R_below (by (with_reducible repeat (first | apply o' | apply n' | apply q')); exact HO189.out) hb)
      have n1_ := ac' (m' (g := gb185) (o := .cells #[.int .i64 0, .int .i64 0, .slice none 0 0] 25 (0, 0)) (by (with_reducible repeat (first | apply b' | apply e' | apply c')); exact BK185.out) hb)
      have n2_ := ac' (m' (g := gb192) (o := .cells #[.int .i64 t186, .slice Ao94 t187.length co94] 80 (0, 0)) (by (with_reducible repeat (first | apply b' | apply e' | apply c')); exact BK192.out) hb)
      have n3_ := ac' (r' (by repeat (first | (with_reducible exact HR197.out) | (with_reducible refine k' ?_ _) | (with_reducible refine j' ?_ _) | (with_reducible refine l' ?_) | exact HR197.out)) hb)
      have n4_ := ac' (r' (by repeat (first | (with_reducible exact HR202.out) | (with_reducible refine k' ?_ _) | (with_reducible refine j' ?_ _) | (with_reducible refine l' ?_) | exact HR202.out)) hb)
      have n5_ := ac' (m' (g := gb206) (o := .cells #[.int .i64 0, .int .i64 0, .slice none 0 0] 25 (0, 0)) (by (with_reducible repeat (first | apply b' | apply e' | apply c')); exact BK206.out) hb)
      have n6_ := ac' (below_step (by repeat (first | (with_reducible first | exact HB.out | apply h' | apply f' | apply g' | refine d' ?_ GE185.out | refine d' ?_ GE192.out | refine d' ?_ GE206.out) | exact HB.out)) hb)
      clear HO189
      clear BK185
      clear BK192
      clear HR197
      clear HR202
      clear BK206
      clear HB
      have HO189 := n0_
      have BK185 := n1_
      have BK192 := n2_
      have HR197 := n3_
      have HR202 := n4_
      have BK206 := n5_
      have HB := n6_
      clear n0_ n1_ n2_ n3_ n4_ n5_ n6_
      (try clear hb)
      (try clear hb2)
      (try clear hk)
      (try clear hi)
      refine hK.out _ _ ⟨(p' BK192.out 0).trans rfl, (p' BK192.out 1).trans rfl⟩ (fun hHeld => ?_)
      clear hK K
      refine norm_ (a' := ?_) ?_ ?_
      rotate_left
      · show Act.put _ (some 41) _ = _
        simp only [Act.put, s', u', v', i64_w, i32_w]
        rfl
      refine one_ (i := 10) (N := some 45) #[Y,Y,Y,Y,Y,Y,Y,Y,Y,Y,Y,Z,Y,Z] rfl rfl (one_of HT_.out (by kernel_rfl)) (by decide) (fun K hK => ?_)
      refine goes_ Try.func46 (by kernel_rfl) rfl #[.slice A98 y199.length c98] (by rfl) rfl rfl (by (try simp only [x', y', z']); first | done | rfl | (simp only [aa', ab']; rfl)) ?_
      with_reducible refine (bytes_Clone.calls _ _ y199 t203 _ ?side1 ?side2 A18.out).mono ?_
      (case side1 => repeat (first | exact (by repeat (first | (with_reducible exact HR202.out) | (with_reducible refine k' ?_ _) | (with_reducible refine j' ?_ _) | (with_reducible refine l' ?_) | exact HR202.out)) | (with_reducible refine k' ?_ _) | (with_reducible refine j' ?_ _) | (with_reducible refine l' ?_)))
      (case side2 => exact HC202.out)
      rintro e w102 ⟨v204, rfl, ho0, hb⟩
      refine ⟨_, rfl, ?_⟩
      have n0_ := ac' (Kd.R_elder' (by (with_reducible repeat (first | apply o' | apply n' | apply q')); exact HO189.out) (Kd.R_base ho0) hb)
      have n1_ := ac' (Kd.R_lower (Kd.R_new' ho0 (Kd.R_lt (by (with_reducible repeat (first | apply o' | apply n' | apply q')); exact HO189.out))) (below_size (by repeat (first | (with_reducible first | exact HB.out | apply h' | apply f' | apply g' | refine d' ?_ GE185.out | refine d' ?_ GE192.out | refine d' ?_ GE206.out) | exact HB.out))))
      have n2_ := ac' (m' (g := gb185) (o := .cells #[.int .i64 0, .int .i64 0, .slice none 0 0] 25 (0, 0)) (by (with_reducible repeat (first | apply b' | apply e' | apply c')); exact BK185.out) hb)
      have n3_ := ac' (m' (g := gb192) (o := .cells #[.int .i64 t186, .slice Ao94 t187.length co94] 80 (0, 0)) (by (with_reducible repeat (first | apply b' | apply e' | apply c')); exact BK192.out) hb)
      have n4_ := ac' (r' (by repeat (first | (with_reducible exact HR197.out) | (with_reducible refine k' ?_ _) | (with_reducible refine j' ?_ _) | (with_reducible refine l' ?_) | exact HR197.out)) hb)
      have n5_ := ac' (r' (by repeat (first | (with_reducible exact HR202.out) | (with_reducible refine k' ?_ _) | (with_reducible refine j' ?_ _) | (with_reducible refine l' ?_) | exact HR202.out)) hb)
      have n6_ := ac' (m' (g := gb206) (o := .cells #[.int .i64 0, .int .i64 0, .slice none 0 0] 25 (0, 0)) (by (with_reducible repeat (first | apply b' | apply e' | apply c')); exact BK206.out) hb)
      have n7_ := ac' (below_step (by repeat (first | (with_reducible first | exact HB.out | apply h' | apply f' | apply g' | refine d' ?_ GE185.out | refine d' ?_ GE192.out | refine d' ?_ GE206.out) | exact HB.out)) hb)
      clear HO189
      clear BK185
      clear BK192
      clear HR197
      clear HR202
      clear BK206
      clear HB
      have HO189 := n0_
      have HO205 := n1_
      have BK185 := n2_
      have BK192 := n3_
      have HR197 := n4_
      have HR202 := n5_
      have BK206 := n6_
      have HB := n7_
      clear n0_ n1_ n2_ n3_ n4_ n5_ n6_ n7_
      (try clear hb)
      (try clear hb2)
      (try clear hk)
      (try clear hi)
      (try clear ho0)
      obtain ⟨Ao103, co103, eo103⟩ := Kd.R_slice HO205.out
      (first | subst eo103 | (injection eo103 with f1_ f2_ f3_; have f4_ := f1_.symm; have f5_ := f3_.symm; clear f1_ f2_ f3_; subst f4_; subst f5_))
      refine hK.out _ _ ⟨(p' BK192.out 0).trans rfl, (p' BK192.out 1).trans rfl⟩ (fun hHeld => ?_)
      clear hK K
      refine norm_ (a' := ?_) ?_ ?_
      rotate_left
      · show Act.put _ (some 45) _ = _
        simp only [Act.put, s', u', v', i64_w, i32_w]
        rfl
      refine pure_ (i := 11) (N := some 46) (v := ?_) (a' := ?_) #[Y,Y,Y,Y,Y,Y,Y,Y,Y,Y,Y,Y,Y,Z] rfl rfl (any_of HT_.out (by kernel_rfl)) (fun _ _ _ h => h) (Or.inl ⟨by rfl, ?_⟩) ?_ ?_
      rotate_left
      · intro w'
        go_simp
        with_reducible rfl
      rotate_left
      · simp only [Act.put, s', u', v', i64_w, i32_w]
        rfl
      exact norm_ (by simp only [putAll, Act.put, s', u', v']) (hCont (.slice Ao103 t203.length co103, gb206) _ ⟨hHeld, (by (with_reducible repeat (first | apply o' | apply n' | apply q')); exact Kd.R_mono HO189.out (fun _ hk => hk.2)), (by (with_reducible repeat (first | apply o' | apply n' | apply q')); exact Kd.R_mono HO205.out (fun _ hk => hk.2)), (by (with_reducible repeat (first | apply b' | apply e' | apply c')); exact BK185.out), (by (with_reducible repeat (first | apply b' | apply e' | apply c')); exact BK192.out), (by (with_reducible repeat (first | apply b' | apply e' | apply c')); exact BK206.out), GW206.out, GE206.out, NB185_206.out, NB206_185.out, NB192_206.out, NB206_192.out, (by repeat (first | (with_reducible first | exact HB.out | apply h' | apply f' | apply g' | refine d' ?_ GE185.out | refine d' ?_ GE192.out | refine d' ?_ GE206.out) | exact HB.out))⟩)
  rintro ⟨v204, gb206⟩ w104 ⟨hS_, h0_, h1_, h2_, h3_, h4_, h5_, h6_, h7_, h8_, h9_, h10_, h11_⟩
  have n0_ : Aside0 (Kd.R (Kd.int .u8) 5 w104 w.heap.size (fun k_ => some k_ ≠ (v204 : Value).ownBlock) (.slice Ao94 t187.length co94) t187) := ⟨h0_⟩
  have n1_ : Aside0 (Kd.R (Kd.int .u8) 5 w104 w.heap.size (fun k_ => some k_ ≠ (.slice Ao94 t187.length co94 : Value).ownBlock) v204 t203) := ⟨h1_⟩
  have n2_ : Aside0 (w104.heap[gb185]? = some (.cells #[.int .i64 0, .int .i64 0, .slice none 0 0] 25 (0, 0))) := ⟨h2_⟩
  have n3_ : Aside0 (w104.heap[gb192]? = some (.cells #[.int .i64 t186, .slice Ao94 t187.length co94] 80 (0, 0))) := ⟨h3_⟩
  have n4_ : Aside0 (w104.heap[gb206]? = some (.cells #[.int .i64 0, .int .i64 0, .slice none 0 0] 25 (0, 0))) := ⟨h4_⟩
  have n5_ : Aside0 (w.heap.size ≤ gb206) := ⟨h5_⟩
  have n6_ : Aside0 (w.heap.size ≤ gb206) := ⟨h6_⟩
  have n7_ : Aside0 (gb185 ≠ gb206) := ⟨h7_⟩
  have n8_ : Aside0 (gb206 ≠ gb185) := ⟨h8_⟩
  have n9_ : Aside0 (gb192 ≠ gb206) := ⟨h9_⟩
  have n10_ : Aside0 (gb206 ≠ gb192) := ⟨h10_⟩
  have n11_ : Aside0 (Below w.heap.size w w104) := ⟨h11_⟩
  clear HO189
  clear BK185
  clear BK192
  clear HB
  clear h0_ h1_ h2_ h3_ h4_ h5_ h6_ h7_ h8_ h9_ h10_ h11_
  have HO189 := n0_
  have HO205 := n1_
  have BK185 := n2_
  have BK192 := n3_
  have BK206 := n4_
  have GW206 := n5_
  have GE206 := n6_
  have NB185_206 := n7_
  have NB206_185 := n8_
  have NB192_206 := n9_
  have NB206_192 := n10_
  have HB := n11_
  clear n0_ n1_ n2_ n3_ n4_ n5_ n6_ n7_ n8_ n9_ n10_ n11_
  have hHeld : w104.cell? ⟨gb192, 0, none⟩ = some (.int .i64 t186) ∧ w104.cell? ⟨gb192, 1, none⟩ = some (.slice Ao94 t187.length co94) := hS_
  obtain ⟨Ao105, co105, eo105⟩ := Kd.R_slice HO205.out
  (first | subst eo105 | (injection eo105 with f1_ f2_ f3_; have f4_ := f1_.symm; have f5_ := f3_.symm; clear f1_ f2_ f3_; subst f4_; subst f5_))
  refine norm_ (a' := ?_) ?_ ?_
  rotate_left
  · simp only [putAll, Act.put, s', u', v']
    rfl
  refine one_ (i := 13) (N := none) #[Y,Y,Y,Y,Y,Y,Y,Y,Y,Y,Y,Y,Y,Y] rfl rfl (one_of HT_.out (by kernel_rfl)) (by decide) (fun K hK => ?_)
  have hs106 : w104.cell? ⟨gb206, 0, none⟩ = some (.int .i64 0) := (p' BK206.out 0).trans rfl
  have hfs106 := blk_frozen BK206.out 0
  have hns106_0 := NB185_206.out
  have hns106_1 := NB192_206.out
  have hms106_0 := NB206_185.out
  have hms106_1 := NB206_192.out
  have hs107 : w104.cell? ⟨gb206, 1, none⟩ = some (.int .i64 0) := (p' BK206.out 1).trans rfl
  have hfs107 := blk_frozen BK206.out 1
  have hns107_0 := NB185_206.out
  have hns107_1 := NB192_206.out
  have hms107_0 := NB206_185.out
  have hms107_1 := NB206_192.out
  have hs108 : w104.cell? ⟨gb206, 2, none⟩ = some (.slice none 0 0) := (p' BK206.out 2).trans rfl
  have hfs108 := blk_frozen BK206.out 2
  have hns108_0 := NB185_206.out
  have hns108_1 := NB192_206.out
  have hms108_0 := NB206_185.out
  have hms108_1 := NB206_192.out
  refine skip_ (w1 := ?_) (by rfl) rfl ?_ ?_
  rotate_left
  · go_simp
    rfl
  refine hK.out _ _ ⟨((cell_far (p := ⟨gb206, _, none⟩) NB192_206.out _).trans (((cell_far (p := ⟨gb206, _, none⟩) NB192_206.out _).trans (((cell_far (p := ⟨gb206, _, none⟩) NB192_206.out _).trans (hHeld.1)))))), ((cell_far (p := ⟨gb206, _, none⟩) NB192_206.out _).trans (((cell_far (p := ⟨gb206, _, none⟩) NB192_206.out _).trans (((cell_far (p := ⟨gb206, _, none⟩) NB192_206.out _).trans (hHeld.2))))))⟩ (fun hHeld => ?_)
  clear hK K
  refine done_ (done_of HT_.out (by kernel_rfl)) ?_
  have hnb109 := NB206_185.out
  have hnc109 := NB185_206.out
  have hnb110 := NB206_192.out
  have hnc110 := NB192_206.out
  have hcz111_0 : w104.cell? ⟨gb206, 0, none⟩ = some (.int .i64 0) := (p' BK206.out 0).trans rfl
  have hcz111_1 : w104.cell? ⟨gb206, 1, none⟩ = some (.int .i64 0) := (p' BK206.out 1).trans rfl
  have hcz111_2 : w104.cell? ⟨gb206, 2, none⟩ = some (.slice none 0 0) := (p' BK206.out 2).trans rfl
  have hfz111_0 := blk_frozen BK206.out 0
  have hfz111_1 := blk_frozen BK206.out 1
  have hfz111_2 := blk_frozen BK206.out 2
  try go_wp2_with (first | ((with_reducible refine gate_callee (f := 24) rfl ?_); refine goesL_ (some 48) rfl rfl Try.func24 (by kernel_rfl) rfl #[.agg #[.int .i64 t193, .int .i64 t198, .slice Ao105 t203.length co105]] rfl (by (try simp only [x', y', z']); first | done | rfl | (simp only [aa', ab']; rfl)) ?_; (with_reducible refine (snap_Check.calls k t193 t198 _ _ t203 t207 _ ?side1 ?side2 A19.out).mono ?_); (case side1 => refine (Kd.R_reads' (e := 5) (base := w.heap.size) (ok := fun k_ => some k_ ≠ (.slice Ao94 t187.length co94 : Value).ownBlock) (n := t203.length) (c := co105) ?_).2.2; exact (by (with_reducible repeat (first | apply o' | apply n' | apply q')); exact (Kd.R_mono (Kd.R_far (p := ⟨gb206, 2, none⟩) (Kd.R_far (p := ⟨gb206, 1, none⟩) (Kd.R_far (p := ⟨gb206, 0, none⟩) (Kd.R_types HO205.out BK206.out (by decide)) (fun _ hk => hk.2) (.int .i64 t193)) (fun _ hk => hk.2) (.int .i64 t198)) (fun _ hk => hk.2) (.slice Ao105 t203.length co105)) (fun _ h_ => h_.1)))); (case side2 => exact (Kd.R_reads' HO205.out).2.1); rintro e w112 ⟨rfl, hb⟩; refine ⟨_, rfl, ?_⟩; have n0_ := ac' (Kd.R_below (by (with_reducible repeat (first | apply o' | apply n' | apply q')); exact (Kd.R_mono (Kd.R_far (p := ⟨gb206, 2, none⟩) (Kd.R_far (p := ⟨gb206, 1, none⟩) (Kd.R_far (p := ⟨gb206, 0, none⟩) (Kd.R_types HO189.out BK206.out (by decide)) (fun _ hk => hk.2) (.int .i64 t193)) (fun _ hk => hk.2) (.int .i64 t198)) (fun _ hk => hk.2) (.slice Ao105 t203.length co105)) (fun _ h_ => h_.1))) hb); have n1_ := ac' (Kd.R_below (by (with_reducible repeat (first | apply o' | apply n' | apply q')); exact (Kd.R_mono (Kd.R_far (p := ⟨gb206, 2, none⟩) (Kd.R_far (p := ⟨gb206, 1, none⟩) (Kd.R_far (p := ⟨gb206, 0, none⟩) (Kd.R_types HO205.out BK206.out (by decide)) (fun _ hk => hk.2) (.int .i64 t193)) (fun _ hk => hk.2) (.int .i64 t198)) (fun _ hk => hk.2) (.slice Ao105 t203.length co105)) (fun _ h_ => h_.1))) hb); have n2_ := ac' (m' (g := gb185) (o := .cells #[.int .i64 0, .int .i64 0, .slice none 0 0] 25 (0, 0)) (by (with_reducible repeat (first | apply b' | apply e' | apply c')); refine blk_far ?_ NB185_206.out _; (with_reducible repeat (first | apply b' | apply e' | apply c')); refine blk_far ?_ NB185_206.out _; (with_reducible repeat (first | apply b' | apply e' | apply c')); refine blk_far ?_ NB185_206.out _; (with_reducible repeat (first | apply b' | apply e' | apply c')); exact BK185.out) hb); have n3_ := ac' (m' (g := gb192) (o := .cells #[.int .i64 t186, .slice Ao94 t187.length co94] 80 (0, 0)) (by (with_reducible repeat (first | apply b' | apply e' | apply c')); refine blk_far ?_ NB192_206.out _; (with_reducible repeat (first | apply b' | apply e' | apply c')); refine blk_far ?_ NB192_206.out _; (with_reducible repeat (first | apply b' | apply e' | apply c')); refine blk_far ?_ NB192_206.out _; (with_reducible repeat (first | apply b' | apply e' | apply c')); exact BK192.out) hb); have n4_ := ac' (m' (g := gb206) (o := .cells #[.int .i64 t193, .int .i64 t198, .slice Ao105 t203.length co105] 25 (0, 0)) (by (with_reducible repeat (first | apply b' | apply e' | apply c')); refine blk_put (cs := #[.int .i64 t193, .int .i64 t198, .slice none 0 0]) ?_ 2 _ rfl; (with_reducible repeat (first | apply b' | apply e' | apply c')); refine blk_put (cs := #[.int .i64 t193, .int .i64 0, .slice none 0 0]) ?_ 1 _ rfl; (with_reducible repeat (first | apply b' | apply e' | apply c')); refine blk_put (cs := #[.int .i64 0, .int .i64 0, .slice none 0 0]) ?_ 0 _ rfl; (with_reducible repeat (first | apply b' | apply e' | apply c')); exact BK206.out) hb); have n5_ := ac' (below_step (by repeat (first | (with_reducible first | exact HB.out | apply h' | apply f' | apply g' | refine d' ?_ GE185.out | refine d' ?_ GE192.out | refine d' ?_ GE206.out) | exact HB.out)) hb); clear HO189; clear HO205; clear BK185; clear BK192; clear BK206; clear HB; have HO189 := n0_; have HO205 := n1_; have BK185 := n2_; have BK192 := n3_; have BK206 := n4_; have HB := n5_; clear n0_ n1_ n2_ n3_ n4_ n5_; (try clear hb); (try clear hb2); (try clear hk); (try clear hi); have hcz113_0 : w112.cell? ⟨gb185, 0, none⟩ = some (.int .i64 0) := (p' BK185.out 0).trans rfl; have hcz113_1 : w112.cell? ⟨gb185, 1, none⟩ = some (.int .i64 0) := (p' BK185.out 1).trans rfl; have hcz113_2 : w112.cell? ⟨gb185, 2, none⟩ = some (.slice none 0 0) := (p' BK185.out 2).trans rfl; have hfz113_0 := blk_frozen BK185.out 0; have hfz113_1 := blk_frozen BK185.out 1; have hfz113_2 := blk_frozen BK185.out 2))
  refine bodyPost_ret (results_ct rfl _ _ gb185 25 #[.int .i64 0, .int .i64 0, .slice none 0 0] (0, 0) _ rfl (by (with_reducible repeat (first | apply b' | apply e' | apply c')); refine blk_put (cs := #[.int .i64 0, .int .i64 0, .slice none 0 0]) ?_ 2 _ rfl; (with_reducible repeat (first | apply b' | apply e' | apply c')); refine blk_put (cs := #[.int .i64 0, .int .i64 0, .slice none 0 0]) ?_ 1 _ rfl; (with_reducible repeat (first | apply b' | apply e' | apply c')); refine blk_put (cs := #[.int .i64 0, .int .i64 0, .slice none 0 0]) ?_ 0 _ rfl; (with_reducible repeat (first | apply b' | apply e' | apply c')); exact BK185.out) Try.underlying25 rfl (by kernel_rfl)) rfl ?_
  exact ⟨_, by first | rfl | (simp [errW_none, errW_some] <;> rfl) | (simp [*, errW_none, errW_some] <;> rfl), by first | exact Kd.R_nil _ _ _ _ _ | exact Kd.N_nil _ _ _ _ _ | exact Kd.V_nil _ _ _ _ _ | exact Kd.Q_nil _ _ _ _ _ | exact Kd.S_nil _ _ _ _ _, by repeat (first | (with_reducible first | exact HB.out | apply h' | apply f' | apply g' | refine d' ?_ GE185.out | refine d' ?_ GE192.out | refine d' ?_ GE206.out) | exact HB.out)⟩
end Go.Proofs.Ytkdaeleolomdkaa.V
