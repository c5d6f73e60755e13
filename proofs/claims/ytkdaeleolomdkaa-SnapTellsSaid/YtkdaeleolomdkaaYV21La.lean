import Derived.Test.YtkdaeleolomdkaaYV0
import Derived.Test.YtkdaeleolomdkaaYV1
import Derived.Test.YtkdaeleolomdkaaYV7
import Derived.Test.YtkdaeleolomdkaaYV8
import Derived.Test.YtkdaeleolomdkaaYV9
import Derived.Test.YtkdaeleolomdkaaYV14
import Derived.Test.YtkdaeleolomdkaaYV17
import Derived.Test.YtkdaeleolomdkaaYV18
import Derived.Test.YtkdaeleolomdkaaYV19
import Derived.Test.YtkdaeleolomdkaaYV20
import Derived.Test.YtkdaeleolomdkaaYV21L
namespace Go.Proofs.Ytkdaeleolomdkaa.V
open Go.Proofs.YtkdaeleolomdkaaW.PrintWords renaming blk_cell → b', blk_drewN → c', blk_alloc → d', below_set → e', blk_drew → f', blk_below → m', pw_below_drewN → p', below_drew1 → r', below_alloc → s', blk_far → aa', below_size → af', below_step → ah', blk_frozen → ba'
open Go.Proofs.YtkdaeleolomdkaaW.PrintWords.Kd renaming R_drewN → g', R_alloc → h', R_drew → j', R_far → k', R_below → l', V_drewN → n', V_alloc → o', V_drew → q', R_base → u', V_below → v', R_types → x', V_far → y', R_mono → z', V_mono → ab', R_elder' → ac', R_lt → ad', R_new' → ae', V_elder' → ag', R_reads' → bb', fresh' → bc', freshB → bd', C_drewN → be', C_alloc → bf'
open List renaming setIfInBounds_toArray → bg', set_cons_zero → bh', set_cons_succ → ca', map_toArray → cb', map_cons → cc', map_nil → cd', length_drop → ce', length_take → cf'
open Go.Proofs.YtkdaeleolomdkaaW.PrintWords.Aside0 renaming mk → cg'
open Bool renaming true → Y, false → Z
open Go.RowKit Go.Proofs.YtkdaeleolomdkaaW.PrintWords Go.Proofs.YtkdaeleolomdkaaW.PrintLast Go.Proofs.YtkdaeleolomdkaaW.PrintMore
attribute [local go_sem] max2_int min2_int max_two min_two max_three min_three max_four min_four   -- for this text's walks alone
set_option linter.unusedVariables false
set_option linter.unusedSimpArgs false
set_option maxHeartbeats 8000000 in
set_option maxRecDepth 100000 in
theorem fanlightlaw07_SnapTells.calls.leaf0 (k : Nat) (a0_0 a0_1 : Int) (A0_2 : Option Addr) (c0_2 : Nat) (l0_2 : List Int) (A1 : Option Addr) (c1 : Nat) (l1 : List Int) (A2 : Option Addr) (c2 : Nat) (l2 : List Int) (w : World) (HR0_2 : Aside0 ((Kd.int IntKind.u8).C w A0_2 l0_2.length l0_2)) (HC0_2 : Aside0 (l0_2.length ≤ c0_2)) (HR1 : Aside0 ((Kd.int IntKind.u8).C w A1 l1.length l1)) (HC1 : Aside0 (l1.length ≤ c1)) (HR2 : Aside0 ((Kd.int IntKind.u8).C w A2 l2.length l2)) (HC2 : Aside0 (l2.length ≤ c2)) (HB : Aside0 (Below w.heap.size w w)) (t266 t267 : Int) (t268 : List Int) (A4 : Aside0 (fanlightlaw07_of.f a0_0 a0_1 l0_2 = some (t266, t267, t268))) (t271 : List Int) (A5 : Aside0 (fanlightlaw07_slot.f l1 = some t271)) (t274 : List Int) (A6 : Aside0 (fanlightlaw07_slot.f l2 = some t274)) (t278 : List Int) (t281 : Int) (A7 : Aside0 (snap_Encode.f t266 t267 t268 = some (t278, t281))) (t282 : List Int) (t285 : Int) (A8 : Aside0 (fanlightref07_Encode.f k a0_0 a0_1 l0_2 = some (t282, t285))) (t286 t287 : Int) (t288 : List Int) (t291 : Int) (A9 : Aside0 (snap_Decode.f k t271 = some (t286, t287, t288, t291))) (t293 : List Int) (A10 : Aside0 (fanlightlaw07_slot.f l1 = some t293)) (t296 t297 : Int) (t298 : List Int) (t301 : Int) (A11 : Aside0 (fanlightref07_Decode.f k t293 = some (t296, t297, t298, t301))) (t303 t304 : Int) (t305 : List Int) (t308 t309 : Int) (A12 : Aside0 (snap_Newest.f k t271 t274 = some (t303, t304, t305, t308, t309))) (t311 : List Int) (A13 : Aside0 (fanlightlaw07_slot.f l1 = some t311)) (t314 : List Int) (A14 : Aside0 (fanlightlaw07_slot.f l2 = some t314)) (t317 t318 : Int) (t319 : List Int) (t322 t323 : Int) (A15 : Aside0 (fanlightref07_Newest.f k t311 t314 = some (t317, t318, t319, t322, t323))) (t325 t326 : Int) (t327 : List Int) (t330 : Int) (A16 : Aside0 (snap_Decode.f k l1 = some (t325, t326, t327, t330))) (t332 t333 : Int) (t334 : List Int) (t337 : Int) (A17 : Aside0 (fanlightref07_Decode.f k l1 = some (t332, t333, t334, t337))) (A18 : Aside0 (fanlightplain_SameBytes.f t278 t282 = some true)) (t340 : Int) (A20 : Aside0 (fanlightlaw07_num.f t281 = some t340)) (c21b0 : (t340 == t285) = true) (c21b1 : (t340 != t285) = false) (A22 : Aside0 (fanlightlaw07_same.f t286 t287 t288 t296 t297 t298 = some true)) (t342 : Int) (A24 : Aside0 (fanlightlaw07_num.f t291 = some t342)) (c25b0 : (t342 == t301) = true) (c25b1 : (t342 != t301) = false) (A26 : Aside0 (fanlightlaw07_same.f t303 t304 t305 t317 t318 t319 = some true)) (c28b0 : (t308 == t322) = true) (c28b1 : (t308 != t322) = false) (t344 : Int) (A29 : Aside0 (fanlightlaw07_num.f t309 = some t344)) (c30b0 : (t344 == t323) = true) (c30b1 : (t344 != t323) = false) (A31 : Aside0 (fanlightlaw07_same.f t325 t326 t327 t332 t333 t334 = some true)) (t346 : Int) (A33 : Aside0 (fanlightlaw07_num.f t330 = some t346)) (c34b0 : (t346 == t337) = true) (c34b1 : (t346 != t337) = false) (t347 : Int) (A35 : Aside0 (snap_Check.f k t266 t267 t268 = some t347)) (t348 : Int) (A36 : Aside0 (fanlightlaw07_num.f t347 = some t348)) (t349 : Int) (A37 : Aside0 (fanlightref07_Check.f k a0_0 a0_1 l0_2 = some t349)) (c38b0 : (t348 == t349) = true) (c38b1 : (t348 != t349) = false) (A39 : Aside0 (fanlightlaw07_same.f t266 t267 t268 a0_0 a0_1 l0_2 = some true)) (t351 : List Int) (A41 : Aside0 (fanlightlaw07_slot.f l1 = some t351)) (A42 : Aside0 (fanlightplain_SameBytes.f t271 t351 = some true)) (t355 : Bool) (A44 : Aside0 (fanlightlaw07_alive.f = some t355)) (hT : t355 = true) (H : some t355 = some t355) :
    Calls Try.prog 3 #[Value.agg #[Value.int IntKind.i64 a0_0, Value.int IntKind.i64 a0_1, Value.slice A0_2 l0_2.length c0_2], Value.slice A1 l1.length c1, Value.slice A2 l2.length c2] w fun e w' => e = Ending.returned (Value.bool t355) ∧ Below w.heap.size w w' := by
  have hu24 := Try.underlying24
  have hu25 := Try.underlying25
  go_enter Try.func3, Try.ntmps3
  try go_wp2_with (first | ((with_reducible refine gate_dst (N := 3) rfl ?_); refine box_event ?hg (N := 3) ?hd (cs := #[.int .i64 a0_0, .int .i64 a0_1, .slice A0_2 l0_2.length c0_2]) (t := 24) ?hr ?_; (case hd => rfl); (case hg => rfl); (case hr => first | (go_simp; done) | (go_simp; rfl)); intro gb265 hg w45 hbox hb; have n0_ := cg' (ah' (by repeat (first | (with_reducible first | exact HB.out | apply s' | apply p' | apply r') | exact HB.out)) hb); have n1_ := cg' (hbox); have n2_ := cg' ((by rw [hg]; exact (af' (by repeat (first | (with_reducible first | exact HB.out | apply s' | apply p' | apply r') | exact HB.out))) : w.heap.size ≤ gb265)); have n3_ := cg' ((by rw [hg]; exact (af' (by repeat (first | (with_reducible first | exact HB.out | apply s' | apply p' | apply r') | exact HB.out))) : w.heap.size ≤ gb265)); clear HB; have HB := n0_; have BK265 := n1_; have GW265 := n2_; have GE265 := n3_; clear n0_ n1_ n2_ n3_; clear hb hbox hg; have hcz46_0 : w45.cell? ⟨gb265, 0, none⟩ = some (.int .i64 a0_0) := (b' BK265.out 0).trans rfl; have hcz46_1 : w45.cell? ⟨gb265, 1, none⟩ = some (.int .i64 a0_1) := (b' BK265.out 1).trans rfl; have hcz46_2 : w45.cell? ⟨gb265, 2, none⟩ = some (.slice A0_2 l0_2.length c0_2) := (b' BK265.out 2).trans rfl; have hfz46_0 := ba' BK265.out 0; have hfz46_1 := ba' BK265.out 1; have hfz46_2 := ba' BK265.out 2) | ((with_reducible refine gate_callee (f := 13) rfl ?_); refine goesL_ (some 29) rfl rfl Try.func13 (by kernel_rfl) rfl #[.agg #[.int .i64 a0_0, .int .i64 a0_1, .slice A0_2 l0_2.length c0_2]] rfl (by (try simp only [cb', cc', cd']); first | done | rfl | (simp only [ce', cf']; rfl)) ?_; (with_reducible refine (fanlightlaw07_of.calls a0_0 a0_1 _ _ l0_2 t266 t267 t268 _ ?side1 ?side2 A4.out).mono ?_); (case side1 => repeat (first | exact (Kd.C_below HR0_2.out HB.out) | (with_reducible refine bf' ?_ _) | (with_reducible refine be' ?_ _) | (with_reducible refine Kd.C_drew ?_))); (case side2 => exact HC0_2.out); rintro e w47 ⟨v269, rfl, ho0, hb⟩; refine ⟨_, rfl, ?_⟩; have n0_ := cg' (Kd.R_lower ho0 (af' (by repeat (first | (with_reducible first | exact HB.out | apply s' | apply p' | apply r' | refine e' ?_ GE265.out) | exact HB.out)))); have n1_ := cg' (m' (g := gb265) (o := .cells #[.int .i64 a0_0, .int .i64 a0_1, .slice A0_2 l0_2.length c0_2] 24 (0, 0)) (by (with_reducible repeat (first | apply c' | apply f' | apply d')); exact BK265.out) hb); have n2_ := cg' (ah' (by repeat (first | (with_reducible first | exact HB.out | apply s' | apply p' | apply r' | refine e' ?_ GE265.out) | exact HB.out)) hb); clear BK265; clear HB; have HO270 := n0_; have BK265 := n1_; have HB := n2_; clear n0_ n1_ n2_; (try clear hb); (try clear hb2); (try clear hk); (try clear hi); (try clear ho0)) | ((with_reducible refine gate_callee (f := 14) rfl ?_); refine goesL_ (some 31) rfl rfl Try.func14 (by kernel_rfl) rfl #[.slice A1 l1.length c1] rfl (by (try simp only [cb', cc', cd']); first | done | rfl | (simp only [ce', cf']; rfl)) ?_; (with_reducible refine (fanlightlaw07_slot.calls (fun k_ => k_ < w.heap.size) _ _ l1 t271 _ ?side1 A5.out).mono ?_); (case side1 => exact Kd.V_mk HC1.out (Kd.F_below (Kd.C_F (Kd.heap_int .u8) HR1.out) (by repeat (first | (with_reducible first | exact HB.out | apply s' | apply p' | apply r' | refine e' ?_ GE265.out) | exact HB.out)))); rintro e w48 ⟨v272, rfl, ho0, hb⟩; refine ⟨_, rfl, ?_⟩; have n0_ := cg' (l' (by (with_reducible repeat (first | apply h' | apply g' | apply j')); exact HO270.out) hb); have n1_ := cg' (Kd.V_lower (ab' (ok' := fun k_ => some k_ ≠ (v269 : Value).ownBlock ∧ k_ ≠ gb265) ho0 (fun k_ hk_ => ⟨Or.elim hk_ (fun hs_ => fun e_ => Nat.not_le.2 hs_ (u' HO270.out k_ e_.symm)) (fun hn_ => (bc' (ad' (by (with_reducible repeat (first | apply h' | apply g' | apply j')); exact HO270.out)) k_ hn_)), Or.elim hk_ (fun hs_ => fun e_ => Nat.not_le.2 hs_ (by rw [e_]; exact GW265.out)) (fun hn_ => (bd' (g := gb265) (o := .cells #[.int .i64 a0_0, .int .i64 a0_1, .slice A0_2 l0_2.length c0_2] 24 (0, 0)) (by (with_reducible repeat (first | apply c' | apply f' | apply d')); exact BK265.out) k_ hn_))⟩)) (af' (by repeat (first | (with_reducible first | exact HB.out | apply s' | apply p' | apply r' | refine e' ?_ GE265.out) | exact HB.out)))); have n2_ := cg' (m' (g := gb265) (o := .cells #[.int .i64 a0_0, .int .i64 a0_1, .slice A0_2 l0_2.length c0_2] 24 (0, 0)) (by (with_reducible repeat (first | apply c' | apply f' | apply d')); exact BK265.out) hb); have n3_ := cg' (ah' (by repeat (first | (with_reducible first | exact HB.out | apply s' | apply p' | apply r' | refine e' ?_ GE265.out) | exact HB.out)) hb); clear HO270; clear BK265; clear HB; have HO270 := n0_; have HO273 := n1_; have BK265 := n2_; have HB := n3_; clear n0_ n1_ n2_ n3_; (try clear hb); (try clear hb2); (try clear hk); (try clear hi); (try clear ho0)) | ((with_reducible refine gate_callee (f := 14) rfl ?_); refine goesL_ (some 33) rfl rfl Try.func14 (by kernel_rfl) rfl #[.slice A2 l2.length c2] rfl (by (try simp only [cb', cc', cd']); first | done | rfl | (simp only [ce', cf']; rfl)) ?_; (with_reducible refine (fanlightlaw07_slot.calls (fun k_ => k_ < w.heap.size) _ _ l2 t274 _ ?side1 A6.out).mono ?_); (case side1 => exact Kd.V_mk HC2.out (Kd.F_below (Kd.C_F (Kd.heap_int .u8) HR2.out) (by repeat (first | (with_reducible first | exact HB.out | apply s' | apply p' | apply r' | refine e' ?_ GE265.out) | exact HB.out)))); rintro e w49 ⟨v275, rfl, ho0, hb⟩; refine ⟨_, rfl, ?_⟩; have n0_ := cg' (l' (by (with_reducible repeat (first | apply h' | apply g' | apply j')); exact HO270.out) hb); have n1_ := cg' (v' (by (with_reducible repeat (first | apply o' | apply n' | apply q')); exact HO273.out) hb); have n2_ := cg' (Kd.V_lower (ab' (ok' := fun k_ => some k_ ≠ (v269 : Value).ownBlock ∧ k_ ≠ gb265) ho0 (fun k_ hk_ => ⟨Or.elim hk_ (fun hs_ => fun e_ => Nat.not_le.2 hs_ (u' HO270.out k_ e_.symm)) (fun hn_ => (bc' (ad' (by (with_reducible repeat (first | apply h' | apply g' | apply j')); exact HO270.out)) k_ hn_)), Or.elim hk_ (fun hs_ => fun e_ => Nat.not_le.2 hs_ (by rw [e_]; exact GW265.out)) (fun hn_ => (bd' (g := gb265) (o := .cells #[.int .i64 a0_0, .int .i64 a0_1, .slice A0_2 l0_2.length c0_2] 24 (0, 0)) (by (with_reducible repeat (first | apply c' | apply f' | apply d')); exact BK265.out) k_ hn_))⟩)) (af' (by repeat (first | (with_reducible first | exact HB.out | apply s' | apply p' | apply r' | refine e' ?_ GE265.out) | exact HB.out)))); have n3_ := cg' (m' (g := gb265) (o := .cells #[.int .i64 a0_0, .int .i64 a0_1, .slice A0_2 l0_2.length c0_2] 24 (0, 0)) (by (with_reducible repeat (first | apply c' | apply f' | apply d')); exact BK265.out) hb); have n4_ := cg' (ah' (by repeat (first | (with_reducible first | exact HB.out | apply s' | apply p' | apply r' | refine e' ?_ GE265.out) | exact HB.out)) hb); clear HO270; clear HO273; clear BK265; clear HB; have HO270 := n0_; have HO273 := n1_; have HO276 := n2_; have BK265 := n3_; have HB := n4_; clear n0_ n1_ n2_ n3_ n4_; (try clear hb); (try clear hb2); (try clear hk); (try clear hi); (try clear ho0)) | ((with_reducible refine gate_dst (N := 7) rfl ?_); refine box_event ?hg (N := 7) ?hd (cs := #[.int .i64 0, .int .i64 0, .slice none 0 0]) (t := 25) ?hr ?_; (case hd => rfl); (case hg => rfl); (case hr => first | (go_simp; done) | (go_simp; rfl)); intro gb277 hg w50 hbox hb; have n0_ := cg' (l' (by (with_reducible repeat (first | apply h' | apply g' | apply j')); exact HO270.out) hb); have n1_ := cg' (v' (Kd.V_elderB (by (with_reducible repeat (first | apply o' | apply n' | apply q')); exact HO273.out) gb277 (Nat.le_of_eq hg.symm)) hb); have n2_ := cg' (v' (Kd.V_elderB (by (with_reducible repeat (first | apply o' | apply n' | apply q')); exact HO276.out) gb277 (Nat.le_of_eq hg.symm)) hb); have n3_ := cg' (m' (g := gb265) (o := .cells #[.int .i64 a0_0, .int .i64 a0_1, .slice A0_2 l0_2.length c0_2] 24 (0, 0)) (by (with_reducible repeat (first | apply c' | apply f' | apply d')); exact BK265.out) hb); have n4_ := cg' (ah' (by repeat (first | (with_reducible first | exact HB.out | apply s' | apply p' | apply r' | refine e' ?_ GE265.out) | exact HB.out)) hb); have n5_ := cg' (hbox); have n6_ := cg' ((by rw [hg]; exact (af' (by repeat (first | (with_reducible first | exact HB.out | apply s' | apply p' | apply r' | refine e' ?_ GE265.out) | exact HB.out))) : w.heap.size ≤ gb277)); have n7_ := cg' ((by rw [hg]; exact (af' (by repeat (first | (with_reducible first | exact HB.out | apply s' | apply p' | apply r' | refine e' ?_ GE265.out) | exact HB.out))) : w.heap.size ≤ gb277)); have n8_ := cg' ((by rw [hg]; exact Nat.ne_of_lt (blk_lt (g := gb265) (o := .cells #[.int .i64 a0_0, .int .i64 a0_1, .slice A0_2 l0_2.length c0_2] 24 (0, 0)) (by (with_reducible repeat (first | apply c' | apply f' | apply d')); exact BK265.out)) : gb265 ≠ gb277)); have n9_ := cg' ((by rw [hg]; exact Nat.ne_of_gt (blk_lt (g := gb265) (o := .cells #[.int .i64 a0_0, .int .i64 a0_1, .slice A0_2 l0_2.length c0_2] 24 (0, 0)) (by (with_reducible repeat (first | apply c' | apply f' | apply d')); exact BK265.out)) : gb277 ≠ gb265)); clear HO270; clear HO273; clear HO276; clear BK265; clear HB; have HO270 := n0_; have HO273 := n1_; have HO276 := n2_; have BK265 := n3_; have HB := n4_; have BK277 := n5_; have GW277 := n6_; have GE277 := n7_; have NB265_277 := n8_; have NB277_265 := n9_; clear n0_ n1_ n2_ n3_ n4_ n5_ n6_ n7_ n8_ n9_; clear hb hbox hg; have hnb51 := NB277_265.out; have hnc51 := NB265_277.out; have hcz52_0 : w50.cell? ⟨gb277, 0, none⟩ = some (.int .i64 0) := (b' BK277.out 0).trans rfl; have hcz52_1 : w50.cell? ⟨gb277, 1, none⟩ = some (.int .i64 0) := (b' BK277.out 1).trans rfl; have hcz52_2 : w50.cell? ⟨gb277, 2, none⟩ = some (.slice none 0 0) := (b' BK277.out 2).trans rfl; have hfz52_0 := ba' BK277.out 0; have hfz52_1 := ba' BK277.out 1; have hfz52_2 := ba' BK277.out 2; obtain ⟨Ao53, co53, eo53⟩ := Kd.R_slice HO270.out; subst eo53) | ((with_reducible refine gate_callee (f := 15) rfl ?_); refine goesL_ (some 36) rfl rfl Try.func15 (by kernel_rfl) rfl #[.agg #[.int .i64 t266, .int .i64 t267, .slice Ao53 t268.length co53]] rfl (by (try simp only [cb', cc', cd']); first | done | rfl | (simp only [ce', cf']; rfl)) ?_; (with_reducible refine (snap_Encode.calls t266 t267 _ _ t268 t278 t281 _ ?side1 ?side2 A7.out).mono ?_); (case side1 => refine (bb' (e := 5) (base := w.heap.size) (ok := fun k_ => True) (n := t268.length) (c := co53) ?_).2.2; exact (by (with_reducible repeat (first | apply h' | apply g' | apply j')); exact (z' (k' (p := ⟨gb277, 2, none⟩) (k' (p := ⟨gb277, 1, none⟩) (k' (p := ⟨gb277, 0, none⟩) (x' HO270.out BK277.out (by decide)) (fun _ hk => hk.2) (.int .i64 t266)) (fun _ hk => hk.2) (.int .i64 t267)) (fun _ hk => hk.2) (.slice Ao53 t268.length co53)) (fun _ h_ => h_.1)))); (case side2 => exact (bb' HO270.out).2.1); rintro e w54 ⟨v279, rfl, ho0, hb⟩; refine ⟨_, rfl, ?_⟩; have n0_ := cg' (ac' (by (with_reducible repeat (first | apply h' | apply g' | apply j')); exact (z' (k' (p := ⟨gb277, 2, none⟩) (k' (p := ⟨gb277, 1, none⟩) (k' (p := ⟨gb277, 0, none⟩) (x' HO270.out BK277.out (by decide)) (fun _ hk => hk.2) (.int .i64 t266)) (fun _ hk => hk.2) (.int .i64 t267)) (fun _ hk => hk.2) (.slice Ao53 t268.length co53)) (fun _ h_ => h_.1))) (u' ho0) hb); have n1_ := cg' (ag' (by (with_reducible repeat (first | apply o' | apply n' | apply q')); exact (ab' (y' (p := ⟨gb277, 2, none⟩) (y' (p := ⟨gb277, 1, none⟩) (y' (p := ⟨gb277, 0, none⟩) (ab' HO273.out (fun k_ hk => (⟨hk, hk.2⟩ : _ ∧ k_ ≠ gb277))) (fun _ hk => hk.2) (.int .i64 t266)) (fun _ hk => hk.2) (.int .i64 t267)) (fun _ hk => hk.2) (.slice Ao53 t268.length co53)) (fun _ h_ => h_.1))) (u' ho0) hb); have n2_ := cg' (ag' (by (with_reducible repeat (first | apply o' | apply n' | apply q')); exact (ab' (y' (p := ⟨gb277, 2, none⟩) (y' (p := ⟨gb277, 1, none⟩) (y' (p := ⟨gb277, 0, none⟩) (ab' HO276.out (fun k_ hk => (⟨hk, hk.2⟩ : _ ∧ k_ ≠ gb277))) (fun _ hk => hk.2) (.int .i64 t266)) (fun _ hk => hk.2) (.int .i64 t267)) (fun _ hk => hk.2) (.slice Ao53 t268.length co53)) (fun _ h_ => h_.1))) (u' ho0) hb); have n3_ := cg' (Kd.R_lower (ae' ho0 (ad' (by (with_reducible repeat (first | apply h' | apply g' | apply j')); exact (z' (k' (p := ⟨gb277, 2, none⟩) (k' (p := ⟨gb277, 1, none⟩) (k' (p := ⟨gb277, 0, none⟩) (x' HO270.out BK277.out (by decide)) (fun _ hk => hk.2) (.int .i64 t266)) (fun _ hk => hk.2) (.int .i64 t267)) (fun _ hk => hk.2) (.slice Ao53 t268.length co53)) (fun _ h_ => h_.1))))) (af' (by repeat (first | (with_reducible first | exact HB.out | apply s' | apply p' | apply r' | refine e' ?_ GE265.out | refine e' ?_ GE277.out) | exact HB.out)))); have n4_ := cg' (m' (g := gb265) (o := .cells #[.int .i64 a0_0, .int .i64 a0_1, .slice A0_2 l0_2.length c0_2] 24 (0, 0)) (by (with_reducible repeat (first | apply c' | apply f' | apply d')); refine aa' ?_ NB265_277.out _; (with_reducible repeat (first | apply c' | apply f' | apply d')); refine aa' ?_ NB265_277.out _; (with_reducible repeat (first | apply c' | apply f' | apply d')); refine aa' ?_ NB265_277.out _; (with_reducible repeat (first | apply c' | apply f' | apply d')); exact BK265.out) hb); have n5_ := cg' (m' (g := gb277) (o := .cells #[.int .i64 t266, .int .i64 t267, .slice Ao53 t268.length co53] 25 (0, 0)) (by (with_reducible repeat (first | apply c' | apply f' | apply d')); refine blk_put (cs := #[.int .i64 t266, .int .i64 t267, .slice none 0 0]) ?_ 2 _ rfl; (with_reducible repeat (first | apply c' | apply f' | apply d')); refine blk_put (cs := #[.int .i64 t266, .int .i64 0, .slice none 0 0]) ?_ 1 _ rfl; (with_reducible repeat (first | apply c' | apply f' | apply d')); refine blk_put (cs := #[.int .i64 0, .int .i64 0, .slice none 0 0]) ?_ 0 _ rfl; (with_reducible repeat (first | apply c' | apply f' | apply d')); exact BK277.out) hb); have n6_ := cg' (ah' (by repeat (first | (with_reducible first | exact HB.out | apply s' | apply p' | apply r' | refine e' ?_ GE265.out | refine e' ?_ GE277.out) | exact HB.out)) hb); clear HO270; clear HO273; clear HO276; clear BK265; clear BK277; clear HB; have HO270 := n0_; have HO273 := n1_; have HO276 := n2_; have HO280 := n3_; have BK265 := n4_; have BK277 := n5_; have HB := n6_; clear n0_ n1_ n2_ n3_ n4_ n5_ n6_; (try clear hb); (try clear hb2); (try clear hk); (try clear hi); (try clear ho0); have hcz55_0 : w54.cell? ⟨gb265, 0, none⟩ = some (.int .i64 a0_0) := (b' BK265.out 0).trans rfl; have hcz55_1 : w54.cell? ⟨gb265, 1, none⟩ = some (.int .i64 a0_1) := (b' BK265.out 1).trans rfl; have hcz55_2 : w54.cell? ⟨gb265, 2, none⟩ = some (.slice A0_2 l0_2.length c0_2) := (b' BK265.out 2).trans rfl; have hfz55_0 := ba' BK265.out 0; have hfz55_1 := ba' BK265.out 1; have hfz55_2 := ba' BK265.out 2) | ((with_reducible refine gate_callee (f := 16) rfl ?_); refine goesL_ (some 41) rfl rfl Try.func16 (by kernel_rfl) rfl #[.agg #[.int .i64 a0_0, .int .i64 a0_1, .slice A0_2 l0_2.length c0_2]] rfl (by (try simp only [cb', cc', cd']); first | done | rfl | (simp only [ce', cf']; rfl)) ?_; (with_reducible refine (fanlightref07_Encode.calls k a0_0 a0_1 _ _ l0_2 t282 t285 _ ?side1 ?side2 A8.out).mono ?_); (case side1 => repeat (first | exact (Kd.C_below HR0_2.out HB.out) | (with_reducible refine bf' ?_ _) | (with_reducible refine be' ?_ _) | (with_reducible refine Kd.C_drew ?_))); (case side2 => exact HC0_2.out); rintro e w56 ⟨v283, rfl, ho0, hb⟩; refine ⟨_, rfl, ?_⟩; have n0_ := cg' (ac' (by (with_reducible repeat (first | apply h' | apply g' | apply j')); exact HO270.out) (u' ho0) hb); have n1_ := cg' (ag' (by (with_reducible repeat (first | apply o' | apply n' | apply q')); exact HO273.out) (u' ho0) hb); have n2_ := cg' (ag' (by (with_reducible repeat (first | apply o' | apply n' | apply q')); exact HO276.out) (u' ho0) hb); have n3_ := cg' (ac' (by (with_reducible repeat (first | apply h' | apply g' | apply j')); exact HO280.out) (u' ho0) hb); have n4_ := cg' (Kd.R_lower (ae' (ae' ho0 (ad' (by (with_reducible repeat (first | apply h' | apply g' | apply j')); exact HO270.out))) (ad' (by (with_reducible repeat (first | apply h' | apply g' | apply j')); exact HO280.out))) (af' (by repeat (first | (with_reducible first | exact HB.out | apply s' | apply p' | apply r' | refine e' ?_ GE265.out | refine e' ?_ GE277.out) | exact HB.out)))); have n5_ := cg' (m' (g := gb265) (o := .cells #[.int .i64 a0_0, .int .i64 a0_1, .slice A0_2 l0_2.length c0_2] 24 (0, 0)) (by (with_reducible repeat (first | apply c' | apply f' | apply d')); exact BK265.out) hb); have n6_ := cg' (m' (g := gb277) (o := .cells #[.int .i64 t266, .int .i64 t267, .slice Ao53 t268.length co53] 25 (0, 0)) (by (with_reducible repeat (first | apply c' | apply f' | apply d')); exact BK277.out) hb); have n7_ := cg' (ah' (by repeat (first | (with_reducible first | exact HB.out | apply s' | apply p' | apply r' | refine e' ?_ GE265.out | refine e' ?_ GE277.out) | exact HB.out)) hb); clear HO270; clear HO273; clear HO276; clear HO280; clear BK265; clear BK277; clear HB; have HO270 := n0_; have HO273 := n1_; have HO276 := n2_; have HO280 := n3_; have HO284 := n4_; have BK265 := n5_; have BK277 := n6_; have HB := n7_; clear n0_ n1_ n2_ n3_ n4_ n5_ n6_ n7_; (try clear hb); (try clear hb2); (try clear hk); (try clear hi); (try clear ho0); obtain ⟨Ao57, co57, eo57⟩ := Kd.V_slice HO273.out; subst eo57) | ((with_reducible refine gate_callee (f := 17) rfl ?_); refine goesL_ (some 46) rfl rfl Try.func17 (by kernel_rfl) rfl #[.slice Ao57 t271.length co57] rfl (by (try simp only [cb', cc', cd']); first | done | rfl | (simp only [ce', cf']; rfl)) ?_; (with_reducible refine (snap_Decode.calls k _ _ t271 t286 t287 t288 t291 _ ?side1 ?side2 A9.out).mono ?_); (case side1 => repeat (first | exact (Kd.V_reads' HO273.out).2.2 | (with_reducible refine bf' ?_ _) | (with_reducible refine be' ?_ _) | (with_reducible refine Kd.C_drew ?_))); (case side2 => exact (Kd.V_reads' HO273.out).2.1); rintro e w58 ⟨v289, rfl, ho0, hb⟩; refine ⟨_, rfl, ?_⟩; have n0_ := cg' (ac' (by (with_reducible repeat (first | apply h' | apply g' | apply j')); exact HO270.out) (u' ho0) hb); have n1_ := cg' (ag' (by (with_reducible repeat (first | apply o' | apply n' | apply q')); exact HO273.out) (u' ho0) hb); have n2_ := cg' (ag' (by (with_reducible repeat (first | apply o' | apply n' | apply q')); exact HO276.out) (u' ho0) hb); have n3_ := cg' (ac' (by (with_reducible repeat (first | apply h' | apply g' | apply j')); exact HO280.out) (u' ho0) hb); have n4_ := cg' (ac' (by (with_reducible repeat (first | apply h' | apply g' | apply j')); exact HO284.out) (u' ho0) hb); have n5_ := cg' (Kd.R_lower (ae' (ae' (ae' ho0 (ad' (by (with_reducible repeat (first | apply h' | apply g' | apply j')); exact HO270.out))) (ad' (by (with_reducible repeat (first | apply h' | apply g' | apply j')); exact HO280.out))) (ad' (by (with_reducible repeat (first | apply h' | apply g' | apply j')); exact HO284.out))) (af' (by repeat (first | (with_reducible first | exact HB.out | apply s' | apply p' | apply r' | refine e' ?_ GE265.out | refine e' ?_ GE277.out) | exact HB.out)))); have n6_ := cg' (m' (g := gb265) (o := .cells #[.int .i64 a0_0, .int .i64 a0_1, .slice A0_2 l0_2.length c0_2] 24 (0, 0)) (by (with_reducible repeat (first | apply c' | apply f' | apply d')); exact BK265.out) hb); have n7_ := cg' (m' (g := gb277) (o := .cells #[.int .i64 t266, .int .i64 t267, .slice Ao53 t268.length co53] 25 (0, 0)) (by (with_reducible repeat (first | apply c' | apply f' | apply d')); exact BK277.out) hb); have n8_ := cg' (ah' (by repeat (first | (with_reducible first | exact HB.out | apply s' | apply p' | apply r' | refine e' ?_ GE265.out | refine e' ?_ GE277.out) | exact HB.out)) hb); clear HO270; clear HO273; clear HO276; clear HO280; clear HO284; clear BK265; clear BK277; clear HB; have HO270 := n0_; have HO273 := n1_; have HO276 := n2_; have HO280 := n3_; have HO284 := n4_; have HO290 := n5_; have BK265 := n6_; have BK277 := n7_; have HB := n8_; clear n0_ n1_ n2_ n3_ n4_ n5_ n6_ n7_ n8_; (try clear hb); (try clear hb2); (try clear hk); (try clear hi); (try clear ho0)) | ((with_reducible refine gate_dst (N := 14) rfl ?_); refine box_event ?hg (N := 14) ?hd (cs := #[.int .i64 0, .int .i64 0, .slice none 0 0]) (t := 25) ?hr ?_; (case hd => rfl); (case hg => rfl); (case hr => first | (go_simp; done) | (go_simp; rfl)); intro gb292 hg w59 hbox hb; have n0_ := cg' (l' (by (with_reducible repeat (first | apply h' | apply g' | apply j')); exact HO270.out) hb); have n1_ := cg' (v' (Kd.V_elderB (by (with_reducible repeat (first | apply o' | apply n' | apply q')); exact HO273.out) gb292 (Nat.le_of_eq hg.symm)) hb); have n2_ := cg' (v' (Kd.V_elderB (by (with_reducible repeat (first | apply o' | apply n' | apply q')); exact HO276.out) gb292 (Nat.le_of_eq hg.symm)) hb); have n3_ := cg' (l' (by (with_reducible repeat (first | apply h' | apply g' | apply j')); exact HO280.out) hb); have n4_ := cg' (l' (by (with_reducible repeat (first | apply h' | apply g' | apply j')); exact HO284.out) hb); have n5_ := cg' (l' (by (with_reducible repeat (first | apply h' | apply g' | apply j')); exact HO290.out) hb); have n6_ := cg' (m' (g := gb265) (o := .cells #[.int .i64 a0_0, .int .i64 a0_1, .slice A0_2 l0_2.length c0_2] 24 (0, 0)) (by (with_reducible repeat (first | apply c' | apply f' | apply d')); exact BK265.out) hb); have n7_ := cg' (m' (g := gb277) (o := .cells #[.int .i64 t266, .int .i64 t267, .slice Ao53 t268.length co53] 25 (0, 0)) (by (with_reducible repeat (first | apply c' | apply f' | apply d')); exact BK277.out) hb); have n8_ := cg' (ah' (by repeat (first | (with_reducible first | exact HB.out | apply s' | apply p' | apply r' | refine e' ?_ GE265.out | refine e' ?_ GE277.out) | exact HB.out)) hb); have n9_ := cg' (hbox); have n10_ := cg' ((by rw [hg]; exact (af' (by repeat (first | (with_reducible first | exact HB.out | apply s' | apply p' | apply r' | refine e' ?_ GE265.out | refine e' ?_ GE277.out) | exact HB.out))) : w.heap.size ≤ gb292)); have n11_ := cg' ((by rw [hg]; exact (af' (by repeat (first | (with_reducible first | exact HB.out | apply s' | apply p' | apply r' | refine e' ?_ GE265.out | refine e' ?_ GE277.out) | exact HB.out))) : w.heap.size ≤ gb292)); have n12_ := cg' ((by rw [hg]; exact Nat.ne_of_lt (blk_lt (g := gb265) (o := .cells #[.int .i64 a0_0, .int .i64 a0_1, .slice A0_2 l0_2.length c0_2] 24 (0, 0)) (by (with_reducible repeat (first | apply c' | apply f' | apply d')); exact BK265.out)) : gb265 ≠ gb292)); have n13_ := cg' ((by rw [hg]; exact Nat.ne_of_gt (blk_lt (g := gb265) (o := .cells #[.int .i64 a0_0, .int .i64 a0_1, .slice A0_2 l0_2.length c0_2] 24 (0, 0)) (by (with_reducible repeat (first | apply c' | apply f' | apply d')); exact BK265.out)) : gb292 ≠ gb265)); have n14_ := cg' ((by rw [hg]; exact Nat.ne_of_lt (blk_lt (g := gb277) (o := .cells #[.int .i64 t266, .int .i64 t267, .slice Ao53 t268.length co53] 25 (0, 0)) (by (with_reducible repeat (first | apply c' | apply f' | apply d')); exact BK277.out)) : gb277 ≠ gb292)); have n15_ := cg' ((by rw [hg]; exact Nat.ne_of_gt (blk_lt (g := gb277) (o := .cells #[.int .i64 t266, .int .i64 t267, .slice Ao53 t268.length co53] 25 (0, 0)) (by (with_reducible repeat (first | apply c' | apply f' | apply d')); exact BK277.out)) : gb292 ≠ gb277)); clear HO270; clear HO273; clear HO276; clear HO280; clear HO284; clear HO290; clear BK265; clear BK277; clear HB; have HO270 := n0_; have HO273 := n1_; have HO276 := n2_; have HO280 := n3_; have HO284 := n4_; have HO290 := n5_; have BK265 := n6_; have BK277 := n7_; have HB := n8_; have BK292 := n9_; have GW292 := n10_; have GE292 := n11_; have NB265_292 := n12_; have NB292_265 := n13_; have NB277_292 := n14_; have NB292_277 := n15_; clear n0_ n1_ n2_ n3_ n4_ n5_ n6_ n7_ n8_ n9_ n10_ n11_ n12_ n13_ n14_ n15_; clear hb hbox hg; have hnb60 := NB292_265.out; have hnc60 := NB265_292.out; have hnb61 := NB292_277.out; have hnc61 := NB277_292.out; have hcz62_0 : w59.cell? ⟨gb292, 0, none⟩ = some (.int .i64 0) := (b' BK292.out 0).trans rfl; have hcz62_1 : w59.cell? ⟨gb292, 1, none⟩ = some (.int .i64 0) := (b' BK292.out 1).trans rfl; have hcz62_2 : w59.cell? ⟨gb292, 2, none⟩ = some (.slice none 0 0) := (b' BK292.out 2).trans rfl; have hfz62_0 := ba' BK292.out 0; have hfz62_1 := ba' BK292.out 1; have hfz62_2 := ba' BK292.out 2; obtain ⟨Ao63, co63, eo63⟩ := Kd.R_slice HO290.out; subst eo63) | ((with_reducible refine gate_store (t := 25) (p := 14) rfl ?_); refine store_event (t := 25) (p := 14) (v := ?vo_w64) (w1 := (((w59.setCell ⟨gb292, 0, none⟩ (.int .i64 t286)).setCell ⟨gb292, 1, none⟩ (.int .i64 t287)).setCell ⟨gb292, 2, none⟩ (.slice Ao63 t288.length co63))) ?hg ?ho ?hn ?hr ?_; (case ho => rfl); (case hg => rfl); (case hn => rfl); (case hr => first | (go_simp; done) | (go_simp; rfl)); intro w64 hw; have n0_ : Aside0 (Kd.R (Kd.int .u8) 5 w64 w.heap.size (fun k_ => some k_ ≠ (v279 : Value).ownBlock ∧ some k_ ≠ (v283 : Value).ownBlock ∧ some k_ ≠ (.slice Ao63 t288.length co63 : Value).ownBlock) (.slice Ao53 t268.length co53) t268) := ⟨(by rw [hw]; exact (by (with_reducible repeat (first | apply h' | apply g' | apply j')); exact z' (k' (p := ⟨gb292, 2, none⟩) (k' (p := ⟨gb292, 1, none⟩) (k' (p := ⟨gb292, 0, none⟩) (x' HO270.out BK292.out (by decide)) (fun _ hk => hk.2) (.int .i64 t286)) (fun _ hk => hk.2) (.int .i64 t287)) (fun _ hk => hk.2) (.slice Ao63 t288.length co63)) (fun _ hk => ⟨hk.1.1.1.2, ⟨hk.1.1.2, hk.1.2⟩⟩)))⟩; have n1_ : Aside0 (Kd.V (Kd.int .u8) 5 w64 w.heap.size (fun k_ => some k_ ≠ (.slice Ao53 t268.length co53 : Value).ownBlock ∧ some k_ ≠ (v279 : Value).ownBlock ∧ some k_ ≠ (v283 : Value).ownBlock ∧ some k_ ≠ (.slice Ao63 t288.length co63 : Value).ownBlock ∧ k_ ≠ gb265 ∧ k_ ≠ gb277 ∧ k_ ≠ gb292) (.slice Ao57 t271.length co57) t271) := ⟨(by rw [hw]; exact (by (with_reducible repeat (first | apply o' | apply n' | apply q')); exact ab' (y' (p := ⟨gb292, 2, none⟩) (y' (p := ⟨gb292, 1, none⟩) (y' (p := ⟨gb292, 0, none⟩) (ab' HO273.out (fun k_ hk => (⟨hk, hk.2⟩ : _ ∧ k_ ≠ gb292))) (fun _ hk => hk.2) (.int .i64 t286)) (fun _ hk => hk.2) (.int .i64 t287)) (fun _ hk => hk.2) (.slice Ao63 t288.length co63)) (fun _ hk => ⟨hk.1.1.1.1.1.1.1, ⟨hk.1.1.1.1.2, ⟨hk.1.1.1.2, ⟨hk.1.1.2, ⟨hk.1.1.1.1.1.1.2, ⟨hk.1.1.1.1.1.2, hk.1.2⟩⟩⟩⟩⟩⟩)))⟩; have n2_ : Aside0 (Kd.V (Kd.int .u8) 5 w64 w.heap.size (fun k_ => some k_ ≠ (.slice Ao53 t268.length co53 : Value).ownBlock ∧ some k_ ≠ (v279 : Value).ownBlock ∧ some k_ ≠ (v283 : Value).ownBlock ∧ some k_ ≠ (.slice Ao63 t288.length co63 : Value).ownBlock ∧ k_ ≠ gb265 ∧ k_ ≠ gb277 ∧ k_ ≠ gb292) v275 t274) := ⟨(by rw [hw]; exact (by (with_reducible repeat (first | apply o' | apply n' | apply q')); exact ab' (y' (p := ⟨gb292, 2, none⟩) (y' (p := ⟨gb292, 1, none⟩) (y' (p := ⟨gb292, 0, none⟩) (ab' HO276.out (fun k_ hk => (⟨hk, hk.2⟩ : _ ∧ k_ ≠ gb292))) (fun _ hk => hk.2) (.int .i64 t286)) (fun _ hk => hk.2) (.int .i64 t287)) (fun _ hk => hk.2) (.slice Ao63 t288.length co63)) (fun _ hk => ⟨hk.1.1.1.1.1.1.1, ⟨hk.1.1.1.1.2, ⟨hk.1.1.1.2, ⟨hk.1.1.2, ⟨hk.1.1.1.1.1.1.2, ⟨hk.1.1.1.1.1.2, hk.1.2⟩⟩⟩⟩⟩⟩)))⟩; have n3_ : Aside0 (Kd.R (Kd.int .u8) 5 w64 w.heap.size (fun k_ => some k_ ≠ (.slice Ao53 t268.length co53 : Value).ownBlock ∧ some k_ ≠ (v283 : Value).ownBlock ∧ some k_ ≠ (.slice Ao63 t288.length co63 : Value).ownBlock) v279 t278) := ⟨(by rw [hw]; exact (by (with_reducible repeat (first | apply h' | apply g' | apply j')); exact z' (k' (p := ⟨gb292, 2, none⟩) (k' (p := ⟨gb292, 1, none⟩) (k' (p := ⟨gb292, 0, none⟩) (x' HO280.out BK292.out (by decide)) (fun _ hk => hk.2) (.int .i64 t286)) (fun _ hk => hk.2) (.int .i64 t287)) (fun _ hk => hk.2) (.slice Ao63 t288.length co63)) (fun _ hk => ⟨hk.1.1.1.2, ⟨hk.1.1.2, hk.1.2⟩⟩)))⟩; have n4_ : Aside0 (Kd.R (Kd.int .u8) 5 w64 w.heap.size (fun k_ => some k_ ≠ (.slice Ao53 t268.length co53 : Value).ownBlock ∧ some k_ ≠ (v279 : Value).ownBlock ∧ some k_ ≠ (.slice Ao63 t288.length co63 : Value).ownBlock) v283 t282) := ⟨(by rw [hw]; exact (by (with_reducible repeat (first | apply h' | apply g' | apply j')); exact z' (k' (p := ⟨gb292, 2, none⟩) (k' (p := ⟨gb292, 1, none⟩) (k' (p := ⟨gb292, 0, none⟩) (x' HO284.out BK292.out (by decide)) (fun _ hk => hk.2) (.int .i64 t286)) (fun _ hk => hk.2) (.int .i64 t287)) (fun _ hk => hk.2) (.slice Ao63 t288.length co63)) (fun _ hk => ⟨hk.1.1.1.2, ⟨hk.1.1.2, hk.1.2⟩⟩)))⟩; have n5_ : Aside0 (Kd.R (Kd.int .u8) 5 w64 w.heap.size (fun k_ => some k_ ≠ (.slice Ao53 t268.length co53 : Value).ownBlock ∧ some k_ ≠ (v279 : Value).ownBlock ∧ some k_ ≠ (v283 : Value).ownBlock) (.slice Ao63 t288.length co63) t288) := ⟨(by rw [hw]; exact (by (with_reducible repeat (first | apply h' | apply g' | apply j')); exact z' (k' (p := ⟨gb292, 2, none⟩) (k' (p := ⟨gb292, 1, none⟩) (k' (p := ⟨gb292, 0, none⟩) (x' HO290.out BK292.out (by decide)) (fun _ hk => hk.2) (.int .i64 t286)) (fun _ hk => hk.2) (.int .i64 t287)) (fun _ hk => hk.2) (.slice Ao63 t288.length co63)) (fun _ hk => ⟨hk.1.1.1.2, ⟨hk.1.1.2, hk.1.2⟩⟩)))⟩; have n6_ : Aside0 (w64.heap[gb265]? = some (.cells #[.int .i64 a0_0, .int .i64 a0_1, .slice A0_2 l0_2.length c0_2] 24 (0, 0))) := ⟨(by rw [hw]; exact (by (with_reducible repeat (first | apply c' | apply f' | apply d')); refine aa' ?_ NB265_292.out _; (with_reducible repeat (first | apply c' | apply f' | apply d')); refine aa' ?_ NB265_292.out _; (with_reducible repeat (first | apply c' | apply f' | apply d')); refine aa' ?_ NB265_292.out _; (with_reducible repeat (first | apply c' | apply f' | apply d')); exact BK265.out))⟩; have n7_ : Aside0 (w64.heap[gb277]? = some (.cells #[.int .i64 t266, .int .i64 t267, .slice Ao53 t268.length co53] 25 (0, 0))) := ⟨(by rw [hw]; exact (by (with_reducible repeat (first | apply c' | apply f' | apply d')); refine aa' ?_ NB277_292.out _; (with_reducible repeat (first | apply c' | apply f' | apply d')); refine aa' ?_ NB277_292.out _; (with_reducible repeat (first | apply c' | apply f' | apply d')); refine aa' ?_ NB277_292.out _; (with_reducible repeat (first | apply c' | apply f' | apply d')); exact BK277.out))⟩; have n8_ : Aside0 (w64.heap[gb292]? = some (.cells #[.int .i64 t286, .int .i64 t287, .slice Ao63 t288.length co63] 25 (0, 0))) := ⟨(by rw [hw]; exact (by (with_reducible repeat (first | apply c' | apply f' | apply d')); refine blk_put (cs := #[.int .i64 t286, .int .i64 t287, .slice none 0 0]) ?_ 2 _ rfl; (with_reducible repeat (first | apply c' | apply f' | apply d')); refine blk_put (cs := #[.int .i64 t286, .int .i64 0, .slice none 0 0]) ?_ 1 _ rfl; (with_reducible repeat (first | apply c' | apply f' | apply d')); refine blk_put (cs := #[.int .i64 0, .int .i64 0, .slice none 0 0]) ?_ 0 _ rfl; (with_reducible repeat (first | apply c' | apply f' | apply d')); exact BK292.out))⟩; have n9_ : Aside0 (Below w.heap.size w w64) := ⟨(by rw [hw]; exact (by repeat (first | (with_reducible first | exact HB.out | apply s' | apply p' | apply r' | refine e' ?_ GE265.out | refine e' ?_ GE277.out | refine e' ?_ GE292.out) | exact HB.out)))⟩; clear hw; clear HO270; clear HO273; clear HO276; clear HO280; clear HO284; clear HO290; clear BK265; clear BK277; clear BK292; clear HB; have HO270 := n0_; have HO273 := n1_; have HO276 := n2_; have HO280 := n3_; have HO284 := n4_; have HO290 := n5_; have BK265 := n6_; have BK277 := n7_; have BK292 := n8_; have HB := n9_; clear n0_ n1_ n2_ n3_ n4_ n5_ n6_ n7_ n8_ n9_) | ((with_reducible refine gate_callee (f := 14) rfl ?_); refine goesL_ (some 51) rfl rfl Try.func14 (by kernel_rfl) rfl #[.slice A1 l1.length c1] rfl (by (try simp only [cb', cc', cd']); first | done | rfl | (simp only [ce', cf']; rfl)) ?_; (with_reducible refine (fanlightlaw07_slot.calls (fun k_ => k_ < w.heap.size) _ _ l1 t293 _ ?side1 A10.out).mono ?_); (case side1 => exact Kd.V_mk HC1.out (Kd.F_below (Kd.C_F (Kd.heap_int .u8) HR1.out) (by repeat (first | (with_reducible first | exact HB.out | apply s' | apply p' | apply r' | refine e' ?_ GE265.out | refine e' ?_ GE277.out | refine e' ?_ GE292.out) | exact HB.out)))); rintro e w65 ⟨v294, rfl, ho0, hb⟩; refine ⟨_, rfl, ?_⟩; have n0_ := cg' (l' (by (with_reducible repeat (first | apply h' | apply g' | apply j')); exact HO270.out) hb); have n1_ := cg' (v' (by (with_reducible repeat (first | apply o' | apply n' | apply q')); exact HO273.out) hb); have n2_ := cg' (v' (by (with_reducible repeat (first | apply o' | apply n' | apply q')); exact HO276.out) hb); have n3_ := cg' (l' (by (with_reducible repeat (first | apply h' | apply g' | apply j')); exact HO280.out) hb); have n4_ := cg' (l' (by (with_reducible repeat (first | apply h' | apply g' | apply j')); exact HO284.out) hb); have n5_ := cg' (l' (by (with_reducible repeat (first | apply h' | apply g' | apply j')); exact HO290.out) hb); have n6_ := cg' (Kd.V_lower (ab' (ok' := fun k_ => some k_ ≠ (.slice Ao53 t268.length co53 : Value).ownBlock ∧ some k_ ≠ (v279 : Value).ownBlock ∧ some k_ ≠ (v283 : Value).ownBlock ∧ some k_ ≠ (.slice Ao63 t288.length co63 : Value).ownBlock ∧ k_ ≠ gb265 ∧ k_ ≠ gb277 ∧ k_ ≠ gb292) ho0 (fun k_ hk_ => ⟨Or.elim hk_ (fun hs_ => fun e_ => Nat.not_le.2 hs_ (u' HO270.out k_ e_.symm)) (fun hn_ => (bc' (ad' (by (with_reducible repeat (first | apply h' | apply g' | apply j')); exact HO270.out)) k_ hn_)), Or.elim hk_ (fun hs_ => fun e_ => Nat.not_le.2 hs_ (u' HO280.out k_ e_.symm)) (fun hn_ => (bc' (ad' (by (with_reducible repeat (first | apply h' | apply g' | apply j')); exact HO280.out)) k_ hn_)), Or.elim hk_ (fun hs_ => fun e_ => Nat.not_le.2 hs_ (u' HO284.out k_ e_.symm)) (fun hn_ => (bc' (ad' (by (with_reducible repeat (first | apply h' | apply g' | apply j')); exact HO284.out)) k_ hn_)), Or.elim hk_ (fun hs_ => fun e_ => Nat.not_le.2 hs_ (u' HO290.out k_ e_.symm)) (fun hn_ => (bc' (ad' (by (with_reducible repeat (first | apply h' | apply g' | apply j')); exact HO290.out)) k_ hn_)), Or.elim hk_ (fun hs_ => fun e_ => Nat.not_le.2 hs_ (by rw [e_]; exact GW265.out)) (fun hn_ => (bd' (g := gb265) (o := .cells #[.int .i64 a0_0, .int .i64 a0_1, .slice A0_2 l0_2.length c0_2] 24 (0, 0)) (by (with_reducible repeat (first | apply c' | apply f' | apply d')); exact BK265.out) k_ hn_)), Or.elim hk_ (fun hs_ => fun e_ => Nat.not_le.2 hs_ (by rw [e_]; exact GW277.out)) (fun hn_ => (bd' (g := gb277) (o := .cells #[.int .i64 t266, .int .i64 t267, .slice Ao53 t268.length co53] 25 (0, 0)) (by (with_reducible repeat (first | apply c' | apply f' | apply d')); exact BK277.out) k_ hn_)), Or.elim hk_ (fun hs_ => fun e_ => Nat.not_le.2 hs_ (by rw [e_]; exact GW292.out)) (fun hn_ => (bd' (g := gb292) (o := .cells #[.int .i64 t286, .int .i64 t287, .slice Ao63 t288.length co63] 25 (0, 0)) (by (with_reducible repeat (first | apply c' | apply f' | apply d')); exact BK292.out) k_ hn_))⟩)) (af' (by repeat (first | (with_reducible first | exact HB.out | apply s' | apply p' | apply r' | refine e' ?_ GE265.out | refine e' ?_ GE277.out | refine e' ?_ GE292.out) | exact HB.out)))); have n7_ := cg' (m' (g := gb265) (o := .cells #[.int .i64 a0_0, .int .i64 a0_1, .slice A0_2 l0_2.length c0_2] 24 (0, 0)) (by (with_reducible repeat (first | apply c' | apply f' | apply d')); exact BK265.out) hb); have n8_ := cg' (m' (g := gb277) (o := .cells #[.int .i64 t266, .int .i64 t267, .slice Ao53 t268.length co53] 25 (0, 0)) (by (with_reducible repeat (first | apply c' | apply f' | apply d')); exact BK277.out) hb); have n9_ := cg' (m' (g := gb292) (o := .cells #[.int .i64 t286, .int .i64 t287, .slice Ao63 t288.length co63] 25 (0, 0)) (by (with_reducible repeat (first | apply c' | apply f' | apply d')); exact BK292.out) hb); have n10_ := cg' (ah' (by repeat (first | (with_reducible first | exact HB.out | apply s' | apply p' | apply r' | refine e' ?_ GE265.out | refine e' ?_ GE277.out | refine e' ?_ GE292.out) | exact HB.out)) hb); clear HO270; clear HO273; clear HO276; clear HO280; clear HO284; clear HO290; clear BK265; clear BK277; clear BK292; clear HB; have HO270 := n0_; have HO273 := n1_; have HO276 := n2_; have HO280 := n3_; have HO284 := n4_; have HO290 := n5_; have HO295 := n6_; have BK265 := n7_; have BK277 := n8_; have BK292 := n9_; have HB := n10_; clear n0_ n1_ n2_ n3_ n4_ n5_ n6_ n7_ n8_ n9_ n10_; (try clear hb); (try clear hb2); (try clear hk); (try clear hi); (try clear ho0); obtain ⟨Ao66, co66, eo66⟩ := Kd.V_slice HO295.out; subst eo66) | ((with_reducible refine gate_callee (f := 18) rfl ?_); refine goesL_ (some 52) rfl rfl Try.func18 (by kernel_rfl) rfl #[.slice Ao66 t293.length co66] rfl (by (try simp only [cb', cc', cd']); first | done | rfl | (simp only [ce', cf']; rfl)) ?_; (with_reducible refine (fanlightref07_Decode.calls k _ _ t293 t296 t297 t298 t301 _ ?side1 ?side2 A11.out).mono ?_); (case side1 => repeat (first | exact (Kd.V_reads' HO295.out).2.2 | (with_reducible refine bf' ?_ _) | (with_reducible refine be' ?_ _) | (with_reducible refine Kd.C_drew ?_))); (case side2 => exact (Kd.V_reads' HO295.out).2.1); rintro e w67 ⟨v299, rfl, ho0, hb⟩; refine ⟨_, rfl, ?_⟩; have n0_ := cg' (ac' (by (with_reducible repeat (first | apply h' | apply g' | apply j')); exact HO270.out) (u' ho0) hb); have n1_ := cg' (ag' (by (with_reducible repeat (first | apply o' | apply n' | apply q')); exact HO273.out) (u' ho0) hb); have n2_ := cg' (ag' (by (with_reducible repeat (first | apply o' | apply n' | apply q')); exact HO276.out) (u' ho0) hb); have n3_ := cg' (ac' (by (with_reducible repeat (first | apply h' | apply g' | apply j')); exact HO280.out) (u' ho0) hb); have n4_ := cg' (ac' (by (with_reducible repeat (first | apply h' | apply g' | apply j')); exact HO284.out) (u' ho0) hb); have n5_ := cg' (ac' (by (with_reducible repeat (first | apply h' | apply g' | apply j')); exact HO290.out) (u' ho0) hb); have n6_ := cg' (ag' (by (with_reducible repeat (first | apply o' | apply n' | apply q')); exact HO295.out) (u' ho0) hb); have n7_ := cg' (Kd.R_lower (ae' (ae' (ae' (ae' ho0 (ad' (by (with_reducible repeat (first | apply h' | apply g' | apply j')); exact HO270.out))) (ad' (by (with_reducible repeat (first | apply h' | apply g' | apply j')); exact HO280.out))) (ad' (by (with_reducible repeat (first | apply h' | apply g' | apply j')); exact HO284.out))) (ad' (by (with_reducible repeat (first | apply h' | apply g' | apply j')); exact HO290.out))) (af' (by repeat (first | (with_reducible first | exact HB.out | apply s' | apply p' | apply r' | refine e' ?_ GE265.out | refine e' ?_ GE277.out | refine e' ?_ GE292.out) | exact HB.out)))); have n8_ := cg' (m' (g := gb265) (o := .cells #[.int .i64 a0_0, .int .i64 a0_1, .slice A0_2 l0_2.length c0_2] 24 (0, 0)) (by (with_reducible repeat (first | apply c' | apply f' | apply d')); exact BK265.out) hb); have n9_ := cg' (m' (g := gb277) (o := .cells #[.int .i64 t266, .int .i64 t267, .slice Ao53 t268.length co53] 25 (0, 0)) (by (with_reducible repeat (first | apply c' | apply f' | apply d')); exact BK277.out) hb); have n10_ := cg' (m' (g := gb292) (o := .cells #[.int .i64 t286, .int .i64 t287, .slice Ao63 t288.length co63] 25 (0, 0)) (by (with_reducible repeat (first | apply c' | apply f' | apply d')); exact BK292.out) hb); have n11_ := cg' (ah' (by repeat (first | (with_reducible first | exact HB.out | apply s' | apply p' | apply r' | refine e' ?_ GE265.out | refine e' ?_ GE277.out | refine e' ?_ GE292.out) | exact HB.out)) hb); clear HO270; clear HO273; clear HO276; clear HO280; clear HO284; clear HO290; clear HO295; clear BK265; clear BK277; clear BK292; clear HB; have HO270 := n0_; have HO273 := n1_; have HO276 := n2_; have HO280 := n3_; have HO284 := n4_; have HO290 := n5_; have HO295 := n6_; have HO300 := n7_; have BK265 := n8_; have BK277 := n9_; have BK292 := n10_; have HB := n11_; clear n0_ n1_ n2_ n3_ n4_ n5_ n6_ n7_ n8_ n9_ n10_ n11_; (try clear hb); (try clear hb2); (try clear hk); (try clear hi); (try clear ho0)) | ((with_reducible refine gate_dst (N := 16) rfl ?_); refine box_event ?hg (N := 16) ?hd (cs := #[.int .i64 0, .int .i64 0, .slice none 0 0]) (t := 24) ?hr ?_; (case hd => rfl); (case hg => rfl); (case hr => first | (go_simp; done) | (go_simp; rfl)); intro gb302 hg w68 hbox hb; have n0_ := cg' (l' (by (with_reducible repeat (first | apply h' | apply g' | apply j')); exact HO270.out) hb); have n1_ := cg' (v' (Kd.V_elderB (by (with_reducible repeat (first | apply o' | apply n' | apply q')); exact HO273.out) gb302 (Nat.le_of_eq hg.symm)) hb); have n2_ := cg' (v' (Kd.V_elderB (by (with_reducible repeat (first | apply o' | apply n' | apply q')); exact HO276.out) gb302 (Nat.le_of_eq hg.symm)) hb); have n3_ := cg' (l' (by (with_reducible repeat (first | apply h' | apply g' | apply j')); exact HO280.out) hb); have n4_ := cg' (l' (by (with_reducible repeat (first | apply h' | apply g' | apply j')); exact HO284.out) hb); have n5_ := cg' (l' (by (with_reducible repeat (first | apply h' | apply g' | apply j')); exact HO290.out) hb); have n6_ := cg' (v' (Kd.V_elderB (by (with_reducible repeat (first | apply o' | apply n' | apply q')); exact HO295.out) gb302 (Nat.le_of_eq hg.symm)) hb); have n7_ := cg' (l' (by (with_reducible repeat (first | apply h' | apply g' | apply j')); exact HO300.out) hb); have n8_ := cg' (m' (g := gb265) (o := .cells #[.int .i64 a0_0, .int .i64 a0_1, .slice A0_2 l0_2.length c0_2] 24 (0, 0)) (by (with_reducible repeat (first | apply c' | apply f' | apply d')); exact BK265.out) hb); have n9_ := cg' (m' (g := gb277) (o := .cells #[.int .i64 t266, .int .i64 t267, .slice Ao53 t268.length co53] 25 (0, 0)) (by (with_reducible repeat (first | apply c' | apply f' | apply d')); exact BK277.out) hb); have n10_ := cg' (m' (g := gb292) (o := .cells #[.int .i64 t286, .int .i64 t287, .slice Ao63 t288.length co63] 25 (0, 0)) (by (with_reducible repeat (first | apply c' | apply f' | apply d')); exact BK292.out) hb); have n11_ := cg' (ah' (by repeat (first | (with_reducible first | exact HB.out | apply s' | apply p' | apply r' | refine e' ?_ GE265.out | refine e' ?_ GE277.out | refine e' ?_ GE292.out) | exact HB.out)) hb); have n12_ := cg' (hbox); have n13_ := cg' ((by rw [hg]; exact (af' (by repeat (first | (with_reducible first | exact HB.out | apply s' | apply p' | apply r' | refine e' ?_ GE265.out | refine e' ?_ GE277.out | refine e' ?_ GE292.out) | exact HB.out))) : w.heap.size ≤ gb302)); have n14_ := cg' ((by rw [hg]; exact (af' (by repeat (first | (with_reducible first | exact HB.out | apply s' | apply p' | apply r' | refine e' ?_ GE265.out | refine e' ?_ GE277.out | refine e' ?_ GE292.out) | exact HB.out))) : w.heap.size ≤ gb302)); have n15_ := cg' ((by rw [hg]; exact Nat.ne_of_lt (blk_lt (g := gb265) (o := .cells #[.int .i64 a0_0, .int .i64 a0_1, .slice A0_2 l0_2.length c0_2] 24 (0, 0)) (by (with_reducible repeat (first | apply c' | apply f' | apply d')); exact BK265.out)) : gb265 ≠ gb302)); have n16_ := cg' ((by rw [hg]; exact Nat.ne_of_gt (blk_lt (g := gb265) (o := .cells #[.int .i64 a0_0, .int .i64 a0_1, .slice A0_2 l0_2.length c0_2] 24 (0, 0)) (by (with_reducible repeat (first | apply c' | apply f' | apply d')); exact BK265.out)) : gb302 ≠ gb265)); have n17_ := cg' ((by rw [hg]; exact Nat.ne_of_lt (blk_lt (g := gb277) (o := .cells #[.int .i64 t266, .int .i64 t267, .slice Ao53 t268.length co53] 25 (0, 0)) (by (with_reducible repeat (first | apply c' | apply f' | apply d')); exact BK277.out)) : gb277 ≠ gb302)); have n18_ := cg' ((by rw [hg]; exact Nat.ne_of_gt (blk_lt (g := gb277) (o := .cells #[.int .i64 t266, .int .i64 t267, .slice Ao53 t268.length co53] 25 (0, 0)) (by (with_reducible repeat (first | apply c' | apply f' | apply d')); exact BK277.out)) : gb302 ≠ gb277)); have n19_ := cg' ((by rw [hg]; exact Nat.ne_of_lt (blk_lt (g := gb292) (o := .cells #[.int .i64 t286, .int .i64 t287, .slice Ao63 t288.length co63] 25 (0, 0)) (by (with_reducible repeat (first | apply c' | apply f' | apply d')); exact BK292.out)) : gb292 ≠ gb302)); have n20_ := cg' ((by rw [hg]; exact Nat.ne_of_gt (blk_lt (g := gb292) (o := .cells #[.int .i64 t286, .int .i64 t287, .slice Ao63 t288.length co63] 25 (0, 0)) (by (with_reducible repeat (first | apply c' | apply f' | apply d')); exact BK292.out)) : gb302 ≠ gb292)); clear HO270; clear HO273; clear HO276; clear HO280; clear HO284; clear HO290; clear HO295; clear HO300; clear BK265; clear BK277; clear BK292; clear HB; have HO270 := n0_; have HO273 := n1_; have HO276 := n2_; have HO280 := n3_; have HO284 := n4_; have HO290 := n5_; have HO295 := n6_; have HO300 := n7_; have BK265 := n8_; have BK277 := n9_; have BK292 := n10_; have HB := n11_; have BK302 := n12_; have GW302 := n13_; have GE302 := n14_; have NB265_302 := n15_; have NB302_265 := n16_; have NB277_302 := n17_; have NB302_277 := n18_; have NB292_302 := n19_; have NB302_292 := n20_; clear n0_ n1_ n2_ n3_ n4_ n5_ n6_ n7_ n8_ n9_ n10_ n11_ n12_ n13_ n14_ n15_ n16_ n17_ n18_ n19_ n20_; clear hb hbox hg; have hnb69 := NB302_265.out; have hnc69 := NB265_302.out; have hnb70 := NB302_277.out; have hnc70 := NB277_302.out; have hnb71 := NB302_292.out; have hnc71 := NB292_302.out; have hcz72_0 : w68.cell? ⟨gb302, 0, none⟩ = some (.int .i64 0) := (b' BK302.out 0).trans rfl; have hcz72_1 : w68.cell? ⟨gb302, 1, none⟩ = some (.int .i64 0) := (b' BK302.out 1).trans rfl; have hcz72_2 : w68.cell? ⟨gb302, 2, none⟩ = some (.slice none 0 0) := (b' BK302.out 2).trans rfl; have hfz72_0 := ba' BK302.out 0; have hfz72_1 := ba' BK302.out 1; have hfz72_2 := ba' BK302.out 2; obtain ⟨Ao73, co73, eo73⟩ := Kd.R_slice HO300.out; subst eo73; obtain ⟨Ao74, co74, eo74⟩ := Kd.V_slice HO276.out; subst eo74) | ((with_reducible refine gate_callee (f := 19) rfl ?_); refine goesL_ (some 58) rfl rfl Try.func19 (by kernel_rfl) rfl #[.slice Ao57 t271.length co57, .slice Ao74 t274.length co74] rfl (by (try simp only [cb', cc', cd']); first | done | rfl | (simp only [ce', cf']; rfl)) ?_; (with_reducible refine (snap_Newest.calls k _ _ t271 _ _ t274 t303 t304 t305 t308 t309 _ ?side1 ?side2 ?side3 ?side4 A12.out).mono ?_); (case side1 => refine (Kd.V_reads' (e := 5) (base := w.heap.size) (ok := fun k_ => (((some k_ ≠ (.slice Ao53 t268.length co53 : Value).ownBlock ∧ (some k_ ≠ (v279 : Value).ownBlock ∧ (some k_ ≠ (v283 : Value).ownBlock ∧ (some k_ ≠ (.slice Ao63 t288.length co63 : Value).ownBlock ∧ (k_ ≠ gb265 ∧ (k_ ≠ gb277 ∧ k_ ≠ gb292)))))) ∧ some k_ ≠ (.slice Ao73 t298.length co73 : Value).ownBlock) ∧ k_ ≠ gb302)) (n := t271.length) (c := co57) ?_).2.2; exact (by (with_reducible repeat (first | apply o' | apply n' | apply q')); exact (ab' (y' (p := ⟨gb302, 2, none⟩) (y' (p := ⟨gb302, 1, none⟩) (y' (p := ⟨gb302, 0, none⟩) (ab' HO273.out (fun k_ hk => (⟨hk, hk.2⟩ : _ ∧ k_ ≠ gb302))) (fun _ hk => hk.2) (.int .i64 t296)) (fun _ hk => hk.2) (.int .i64 t297)) (fun _ hk => hk.2) (.slice Ao73 t298.length co73)) (fun _ h_ => h_.1)))); (case side2 => exact (Kd.V_reads' HO273.out).2.1); (case side3 => refine (Kd.V_reads' (e := 5) (base := w.heap.size) (ok := fun k_ => (((some k_ ≠ (.slice Ao53 t268.length co53 : Value).ownBlock ∧ (some k_ ≠ (v279 : Value).ownBlock ∧ (some k_ ≠ (v283 : Value).ownBlock ∧ (some k_ ≠ (.slice Ao63 t288.length co63 : Value).ownBlock ∧ (k_ ≠ gb265 ∧ (k_ ≠ gb277 ∧ k_ ≠ gb292)))))) ∧ some k_ ≠ (.slice Ao73 t298.length co73 : Value).ownBlock) ∧ k_ ≠ gb302)) (n := t274.length) (c := co74) ?_).2.2; exact (by (with_reducible repeat (first | apply o' | apply n' | apply q')); exact (ab' (y' (p := ⟨gb302, 2, none⟩) (y' (p := ⟨gb302, 1, none⟩) (y' (p := ⟨gb302, 0, none⟩) (ab' HO276.out (fun k_ hk => (⟨hk, hk.2⟩ : _ ∧ k_ ≠ gb302))) (fun _ hk => hk.2) (.int .i64 t296)) (fun _ hk => hk.2) (.int .i64 t297)) (fun _ hk => hk.2) (.slice Ao73 t298.length co73)) (fun _ h_ => h_.1)))); (case side4 => exact (Kd.V_reads' HO276.out).2.1); rintro e w75 ⟨v306, rfl, ho0, hb⟩; refine ⟨_, rfl, ?_⟩; have n0_ := cg' (ac' (by (with_reducible repeat (first | apply h' | apply g' | apply j')); exact (z' (k' (p := ⟨gb302, 2, none⟩) (k' (p := ⟨gb302, 1, none⟩) (k' (p := ⟨gb302, 0, none⟩) (x' HO270.out BK302.out (by decide)) (fun _ hk => hk.2) (.int .i64 t296)) (fun _ hk => hk.2) (.int .i64 t297)) (fun _ hk => hk.2) (.slice Ao73 t298.length co73)) (fun _ h_ => h_.1))) (u' ho0) hb); have n1_ := cg' (ag' (by (with_reducible repeat (first | apply o' | apply n' | apply q')); exact (ab' (y' (p := ⟨gb302, 2, none⟩) (y' (p := ⟨gb302, 1, none⟩) (y' (p := ⟨gb302, 0, none⟩) (ab' HO273.out (fun k_ hk => (⟨hk, hk.2⟩ : _ ∧ k_ ≠ gb302))) (fun _ hk => hk.2) (.int .i64 t296)) (fun _ hk => hk.2) (.int .i64 t297)) (fun _ hk => hk.2) (.slice Ao73 t298.length co73)) (fun _ h_ => h_.1))) (u' ho0) hb); have n2_ := cg' (ag' (by (with_reducible repeat (first | apply o' | apply n' | apply q')); exact (ab' (y' (p := ⟨gb302, 2, none⟩) (y' (p := ⟨gb302, 1, none⟩) (y' (p := ⟨gb302, 0, none⟩) (ab' HO276.out (fun k_ hk => (⟨hk, hk.2⟩ : _ ∧ k_ ≠ gb302))) (fun _ hk => hk.2) (.int .i64 t296)) (fun _ hk => hk.2) (.int .i64 t297)) (fun _ hk => hk.2) (.slice Ao73 t298.length co73)) (fun _ h_ => h_.1))) (u' ho0) hb); have n3_ := cg' (ac' (by (with_reducible repeat (first | apply h' | apply g' | apply j')); exact (z' (k' (p := ⟨gb302, 2, none⟩) (k' (p := ⟨gb302, 1, none⟩) (k' (p := ⟨gb302, 0, none⟩) (x' HO280.out BK302.out (by decide)) (fun _ hk => hk.2) (.int .i64 t296)) (fun _ hk => hk.2) (.int .i64 t297)) (fun _ hk => hk.2) (.slice Ao73 t298.length co73)) (fun _ h_ => h_.1))) (u' ho0) hb); have n4_ := cg' (ac' (by (with_reducible repeat (first | apply h' | apply g' | apply j')); exact (z' (k' (p := ⟨gb302, 2, none⟩) (k' (p := ⟨gb302, 1, none⟩) (k' (p := ⟨gb302, 0, none⟩) (x' HO284.out BK302.out (by decide)) (fun _ hk => hk.2) (.int .i64 t296)) (fun _ hk => hk.2) (.int .i64 t297)) (fun _ hk => hk.2) (.slice Ao73 t298.length co73)) (fun _ h_ => h_.1))) (u' ho0) hb); have n5_ := cg' (ac' (by (with_reducible repeat (first | apply h' | apply g' | apply j')); exact (z' (k' (p := ⟨gb302, 2, none⟩) (k' (p := ⟨gb302, 1, none⟩) (k' (p := ⟨gb302, 0, none⟩) (x' HO290.out BK302.out (by decide)) (fun _ hk => hk.2) (.int .i64 t296)) (fun _ hk => hk.2) (.int .i64 t297)) (fun _ hk => hk.2) (.slice Ao73 t298.length co73)) (fun _ h_ => h_.1))) (u' ho0) hb); have n6_ := cg' (ag' (by (with_reducible repeat (first | apply o' | apply n' | apply q')); exact (ab' (y' (p := ⟨gb302, 2, none⟩) (y' (p := ⟨gb302, 1, none⟩) (y' (p := ⟨gb302, 0, none⟩) (ab' HO295.out (fun k_ hk => (⟨hk, hk.2⟩ : _ ∧ k_ ≠ gb302))) (fun _ hk => hk.2) (.int .i64 t296)) (fun _ hk => hk.2) (.int .i64 t297)) (fun _ hk => hk.2) (.slice Ao73 t298.length co73)) (fun _ h_ => h_.1))) (u' ho0) hb); have n7_ := cg' (ac' (by (with_reducible repeat (first | apply h' | apply g' | apply j')); exact (z' (k' (p := ⟨gb302, 2, none⟩) (k' (p := ⟨gb302, 1, none⟩) (k' (p := ⟨gb302, 0, none⟩) (x' HO300.out BK302.out (by decide)) (fun _ hk => hk.2) (.int .i64 t296)) (fun _ hk => hk.2) (.int .i64 t297)) (fun _ hk => hk.2) (.slice Ao73 t298.length co73)) (fun _ h_ => h_.1))) (u' ho0) hb); have n8_ := cg' (Kd.R_lower (ae' (ae' (ae' (ae' (ae' ho0 (ad' (by (with_reducible repeat (first | apply h' | apply g' | apply j')); exact (z' (k' (p := ⟨gb302, 2, none⟩) (k' (p := ⟨gb302, 1, none⟩) (k' (p := ⟨gb302, 0, none⟩) (x' HO270.out BK302.out (by decide)) (fun _ hk => hk.2) (.int .i64 t296)) (fun _ hk => hk.2) (.int .i64 t297)) (fun _ hk => hk.2) (.slice Ao73 t298.length co73)) (fun _ h_ => h_.1))))) (ad' (by (with_reducible repeat (first | apply h' | apply g' | apply j')); exact (z' (k' (p := ⟨gb302, 2, none⟩) (k' (p := ⟨gb302, 1, none⟩) (k' (p := ⟨gb302, 0, none⟩) (x' HO280.out BK302.out (by decide)) (fun _ hk => hk.2) (.int .i64 t296)) (fun _ hk => hk.2) (.int .i64 t297)) (fun _ hk => hk.2) (.slice Ao73 t298.length co73)) (fun _ h_ => h_.1))))) (ad' (by (with_reducible repeat (first | apply h' | apply g' | apply j')); exact (z' (k' (p := ⟨gb302, 2, none⟩) (k' (p := ⟨gb302, 1, none⟩) (k' (p := ⟨gb302, 0, none⟩) (x' HO284.out BK302.out (by decide)) (fun _ hk => hk.2) (.int .i64 t296)) (fun _ hk => hk.2) (.int .i64 t297)) (fun _ hk => hk.2) (.slice Ao73 t298.length co73)) (fun _ h_ => h_.1))))) (ad' (by (with_reducible repeat (first | apply h' | apply g' | apply j')); exact (z' (k' (p := ⟨gb302, 2, none⟩) (k' (p := ⟨gb302, 1, none⟩) (k' (p := ⟨gb302, 0, none⟩) (x' HO290.out BK302.out (by decide)) (fun _ hk => hk.2) (.int .i64 t296)) (fun _ hk => hk.2) (.int .i64 t297)) (fun _ hk => hk.2) (.slice Ao73 t298.length co73)) (fun _ h_ => h_.1))))) (ad' (by (with_reducible repeat (first | apply h' | apply g' | apply j')); exact (z' (k' (p := ⟨gb302, 2, none⟩) (k' (p := ⟨gb302, 1, none⟩) (k' (p := ⟨gb302, 0, none⟩) (x' HO300.out BK302.out (by decide)) (fun _ hk => hk.2) (.int .i64 t296)) (fun _ hk => hk.2) (.int .i64 t297)) (fun _ hk => hk.2) (.slice Ao73 t298.length co73)) (fun _ h_ => h_.1))))) (af' (by repeat (first | (with_reducible first | exact HB.out | apply s' | apply p' | apply r' | refine e' ?_ GE265.out | refine e' ?_ GE277.out | refine e' ?_ GE292.out | refine e' ?_ GE302.out) | exact HB.out)))); have n9_ := cg' (m' (g := gb265) (o := .cells #[.int .i64 a0_0, .int .i64 a0_1, .slice A0_2 l0_2.length c0_2] 24 (0, 0)) (by (with_reducible repeat (first | apply c' | apply f' | apply d')); refine aa' ?_ NB265_302.out _; (with_reducible repeat (first | apply c' | apply f' | apply d')); refine aa' ?_ NB265_302.out _; (with_reducible repeat (first | apply c' | apply f' | apply d')); refine aa' ?_ NB265_302.out _; (with_reducible repeat (first | apply c' | apply f' | apply d')); exact BK265.out) hb); have n10_ := cg' (m' (g := gb277) (o := .cells #[.int .i64 t266, .int .i64 t267, .slice Ao53 t268.length co53] 25 (0, 0)) (by (with_reducible repeat (first | apply c' | apply f' | apply d')); refine aa' ?_ NB277_302.out _; (with_reducible repeat (first | apply c' | apply f' | apply d')); refine aa' ?_ NB277_302.out _; (with_reducible repeat (first | apply c' | apply f' | apply d')); refine aa' ?_ NB277_302.out _; (with_reducible repeat (first | apply c' | apply f' | apply d')); exact BK277.out) hb); have n11_ := cg' (m' (g := gb292) (o := .cells #[.int .i64 t286, .int .i64 t287, .slice Ao63 t288.length co63] 25 (0, 0)) (by (with_reducible repeat (first | apply c' | apply f' | apply d')); refine aa' ?_ NB292_302.out _; (with_reducible repeat (first | apply c' | apply f' | apply d')); refine aa' ?_ NB292_302.out _; (with_reducible repeat (first | apply c' | apply f' | apply d')); refine aa' ?_ NB292_302.out _; (with_reducible repeat (first | apply c' | apply f' | apply d')); exact BK292.out) hb); have n12_ := cg' (m' (g := gb302) (o := .cells #[.int .i64 t296, .int .i64 t297, .slice Ao73 t298.length co73] 24 (0, 0)) (by (with_reducible repeat (first | apply c' | apply f' | apply d')); refine blk_put (cs := #[.int .i64 t296, .int .i64 t297, .slice none 0 0]) ?_ 2 _ rfl; (with_reducible repeat (first | apply c' | apply f' | apply d')); refine blk_put (cs := #[.int .i64 t296, .int .i64 0, .slice none 0 0]) ?_ 1 _ rfl; (with_reducible repeat (first | apply c' | apply f' | apply d')); refine blk_put (cs := #[.int .i64 0, .int .i64 0, .slice none 0 0]) ?_ 0 _ rfl; (with_reducible repeat (first | apply c' | apply f' | apply d')); exact BK302.out) hb); have n13_ := cg' (ah' (by repeat (first | (with_reducible first | exact HB.out | apply s' | apply p' | apply r' | refine e' ?_ GE265.out | refine e' ?_ GE277.out | refine e' ?_ GE292.out | refine e' ?_ GE302.out) | exact HB.out)) hb); clear HO270; clear HO273; clear HO276; clear HO280; clear HO284; clear HO290; clear HO295; clear HO300; clear BK265; clear BK277; clear BK292; clear BK302; clear HB; have HO270 := n0_; have HO273 := n1_; have HO276 := n2_; have HO280 := n3_; have HO284 := n4_; have HO290 := n5_; have HO295 := n6_; have HO300 := n7_; have HO307 := n8_; have BK265 := n9_; have BK277 := n10_; have BK292 := n11_; have BK302 := n12_; have HB := n13_; clear n0_ n1_ n2_ n3_ n4_ n5_ n6_ n7_ n8_ n9_ n10_ n11_ n12_ n13_; (try clear hb); (try clear hb2); (try clear hk); (try clear hi); (try clear ho0)) | ((with_reducible refine gate_dst (N := 18) rfl ?_); refine box_event ?hg (N := 18) ?hd (cs := #[.int .i64 0, .int .i64 0, .slice none 0 0]) (t := 25) ?hr ?_; (case hd => rfl); (case hg => rfl); (case hr => first | (go_simp; done) | (go_simp; rfl)); intro gb310 hg w76 hbox hb; have n0_ := cg' (l' (by (with_reducible repeat (first | apply h' | apply g' | apply j')); exact HO270.out) hb); have n1_ := cg' (v' (Kd.V_elderB (by (with_reducible repeat (first | apply o' | apply n' | apply q')); exact HO273.out) gb310 (Nat.le_of_eq hg.symm)) hb); have n2_ := cg' (v' (Kd.V_elderB (by (with_reducible repeat (first | apply o' | apply n' | apply q')); exact HO276.out) gb310 (Nat.le_of_eq hg.symm)) hb); have n3_ := cg' (l' (by (with_reducible repeat (first | apply h' | apply g' | apply j')); exact HO280.out) hb); have n4_ := cg' (l' (by (with_reducible repeat (first | apply h' | apply g' | apply j')); exact HO284.out) hb); have n5_ := cg' (l' (by (with_reducible repeat (first | apply h' | apply g' | apply j')); exact HO290.out) hb); have n6_ := cg' (v' (Kd.V_elderB (by (with_reducible repeat (first | apply o' | apply n' | apply q')); exact HO295.out) gb310 (Nat.le_of_eq hg.symm)) hb); have n7_ := cg' (l' (by (with_reducible repeat (first | apply h' | apply g' | apply j')); exact HO300.out) hb); have n8_ := cg' (l' (by (with_reducible repeat (first | apply h' | apply g' | apply j')); exact HO307.out) hb); have n9_ := cg' (m' (g := gb265) (o := .cells #[.int .i64 a0_0, .int .i64 a0_1, .slice A0_2 l0_2.length c0_2] 24 (0, 0)) (by (with_reducible repeat (first | apply c' | apply f' | apply d')); exact BK265.out) hb); have n10_ := cg' (m' (g := gb277) (o := .cells #[.int .i64 t266, .int .i64 t267, .slice Ao53 t268.length co53] 25 (0, 0)) (by (with_reducible repeat (first | apply c' | apply f' | apply d')); exact BK277.out) hb); have n11_ := cg' (m' (g := gb292) (o := .cells #[.int .i64 t286, .int .i64 t287, .slice Ao63 t288.length co63] 25 (0, 0)) (by (with_reducible repeat (first | apply c' | apply f' | apply d')); exact BK292.out) hb); have n12_ := cg' (m' (g := gb302) (o := .cells #[.int .i64 t296, .int .i64 t297, .slice Ao73 t298.length co73] 24 (0, 0)) (by (with_reducible repeat (first | apply c' | apply f' | apply d')); exact BK302.out) hb); have n13_ := cg' (ah' (by repeat (first | (with_reducible first | exact HB.out | apply s' | apply p' | apply r' | refine e' ?_ GE265.out | refine e' ?_ GE277.out | refine e' ?_ GE292.out | refine e' ?_ GE302.out) | exact HB.out)) hb); have n14_ := cg' (hbox); have n15_ := cg' ((by rw [hg]; exact (af' (by repeat (first | (with_reducible first | exact HB.out | apply s' | apply p' | apply r' | refine e' ?_ GE265.out | refine e' ?_ GE277.out | refine e' ?_ GE292.out | refine e' ?_ GE302.out) | exact HB.out))) : w.heap.size ≤ gb310)); have n16_ := cg' ((by rw [hg]; exact (af' (by repeat (first | (with_reducible first | exact HB.out | apply s' | apply p' | apply r' | refine e' ?_ GE265.out | refine e' ?_ GE277.out | refine e' ?_ GE292.out | refine e' ?_ GE302.out) | exact HB.out))) : w.heap.size ≤ gb310)); have n17_ := cg' ((by rw [hg]; exact Nat.ne_of_lt (blk_lt (g := gb265) (o := .cells #[.int .i64 a0_0, .int .i64 a0_1, .slice A0_2 l0_2.length c0_2] 24 (0, 0)) (by (with_reducible repeat (first | apply c' | apply f' | apply d')); exact BK265.out)) : gb265 ≠ gb310)); have n18_ := cg' ((by rw [hg]; exact Nat.ne_of_gt (blk_lt (g := gb265) (o := .cells #[.int .i64 a0_0, .int .i64 a0_1, .slice A0_2 l0_2.length c0_2] 24 (0, 0)) (by (with_reducible repeat (first | apply c' | apply f' | apply d')); exact BK265.out)) : gb310 ≠ gb265)); have n19_ := cg' ((by rw [hg]; exact Nat.ne_of_lt (blk_lt (g := gb277) (o := .cells #[.int .i64 t266, .int .i64 t267, .slice Ao53 t268.length co53] 25 (0, 0)) (by (with_reducible repeat (first | apply c' | apply f' | apply d')); exact BK277.out)) : gb277 ≠ gb310)); have n20_ := cg' ((by rw [hg]; exact Nat.ne_of_gt (blk_lt (g := gb277) (o := .cells #[.int .i64 t266, .int .i64 t267, .slice Ao53 t268.length co53] 25 (0, 0)) (by (with_reducible repeat (first | apply c' | apply f' | apply d')); exact BK277.out)) : gb310 ≠ gb277)); have n21_ := cg' ((by rw [hg]; exact Nat.ne_of_lt (blk_lt (g := gb292) (o := .cells #[.int .i64 t286, .int .i64 t287, .slice Ao63 t288.length co63] 25 (0, 0)) (by (with_reducible repeat (first | apply c' | apply f' | apply d')); exact BK292.out)) : gb292 ≠ gb310)); have n22_ := cg' ((by rw [hg]; exact Nat.ne_of_gt (blk_lt (g := gb292) (o := .cells #[.int .i64 t286, .int .i64 t287, .slice Ao63 t288.length co63] 25 (0, 0)) (by (with_reducible repeat (first | apply c' | apply f' | apply d')); exact BK292.out)) : gb310 ≠ gb292)); have n23_ := cg' ((by rw [hg]; exact Nat.ne_of_lt (blk_lt (g := gb302) (o := .cells #[.int .i64 t296, .int .i64 t297, .slice Ao73 t298.length co73] 24 (0, 0)) (by (with_reducible repeat (first | apply c' | apply f' | apply d')); exact BK302.out)) : gb302 ≠ gb310)); have n24_ := cg' ((by rw [hg]; exact Nat.ne_of_gt (blk_lt (g := gb302) (o := .cells #[.int .i64 t296, .int .i64 t297, .slice Ao73 t298.length co73] 24 (0, 0)) (by (with_reducible repeat (first | apply c' | apply f' | apply d')); exact BK302.out)) : gb310 ≠ gb302)); clear HO270; clear HO273; clear HO276; clear HO280; clear HO284; clear HO290; clear HO295; clear HO300; clear HO307; clear BK265; clear BK277; clear BK292; clear BK302; clear HB; have HO270 := n0_; have HO273 := n1_; have HO276 := n2_; have HO280 := n3_; have HO284 := n4_; have HO290 := n5_; have HO295 := n6_; have HO300 := n7_; have HO307 := n8_; have BK265 := n9_; have BK277 := n10_; have BK292 := n11_; have BK302 := n12_; have HB := n13_; have BK310 := n14_; have GW310 := n15_; have GE310 := n16_; have NB265_310 := n17_; have NB310_265 := n18_; have NB277_310 := n19_; have NB310_277 := n20_; have NB292_310 := n21_; have NB310_292 := n22_; have NB302_310 := n23_; have NB310_302 := n24_; clear n0_ n1_ n2_ n3_ n4_ n5_ n6_ n7_ n8_ n9_ n10_ n11_ n12_ n13_ n14_ n15_ n16_ n17_ n18_ n19_ n20_ n21_ n22_ n23_ n24_; clear hb hbox hg; have hnb77 := NB310_265.out; have hnc77 := NB265_310.out; have hnb78 := NB310_277.out; have hnc78 := NB277_310.out; have hnb79 := NB310_292.out; have hnc79 := NB292_310.out; have hnb80 := NB310_302.out; have hnc80 := NB302_310.out; have hcz81_0 : w76.cell? ⟨gb310, 0, none⟩ = some (.int .i64 0) := (b' BK310.out 0).trans rfl; have hcz81_1 : w76.cell? ⟨gb310, 1, none⟩ = some (.int .i64 0) := (b' BK310.out 1).trans rfl; have hcz81_2 : w76.cell? ⟨gb310, 2, none⟩ = some (.slice none 0 0) := (b' BK310.out 2).trans rfl; have hfz81_0 := ba' BK310.out 0; have hfz81_1 := ba' BK310.out 1; have hfz81_2 := ba' BK310.out 2; obtain ⟨Ao82, co82, eo82⟩ := Kd.R_slice HO307.out; subst eo82) | ((with_reducible refine gate_store (t := 25) (p := 18) rfl ?_); refine store_event (t := 25) (p := 18) (v := ?vo_w83) (w1 := (((w76.setCell ⟨gb310, 0, none⟩ (.int .i64 t303)).setCell ⟨gb310, 1, none⟩ (.int .i64 t304)).setCell ⟨gb310, 2, none⟩ (.slice Ao82 t305.length co82))) ?hg ?ho ?hn ?hr ?_; (case ho => rfl); (case hg => rfl); (case hn => rfl); (case hr => first | (go_simp; done) | (go_simp; rfl)); intro w83 hw; have n0_ : Aside0 (Kd.R (Kd.int .u8) 5 w83 w.heap.size (fun k_ => some k_ ≠ (v279 : Value).ownBlock ∧ some k_ ≠ (v283 : Value).ownBlock ∧ some k_ ≠ (.slice Ao63 t288.length co63 : Value).ownBlock ∧ some k_ ≠ (.slice Ao73 t298.length co73 : Value).ownBlock ∧ some k_ ≠ (.slice Ao82 t305.length co82 : Value).ownBlock) (.slice Ao53 t268.length co53) t268) := ⟨(by rw [hw]; exact (by (with_reducible repeat (first | apply h' | apply g' | apply j')); exact z' (k' (p := ⟨gb310, 2, none⟩) (k' (p := ⟨gb310, 1, none⟩) (k' (p := ⟨gb310, 0, none⟩) (x' HO270.out BK310.out (by decide)) (fun _ hk => hk.2) (.int .i64 t303)) (fun _ hk => hk.2) (.int .i64 t304)) (fun _ hk => hk.2) (.slice Ao82 t305.length co82)) (fun _ hk => ⟨hk.1.1.1.1, ⟨hk.1.1.1.2.1, ⟨hk.1.1.1.2.2, ⟨hk.1.1.2, hk.1.2⟩⟩⟩⟩)))⟩; have n1_ : Aside0 (Kd.V (Kd.int .u8) 5 w83 w.heap.size (fun k_ => some k_ ≠ (.slice Ao53 t268.length co53 : Value).ownBlock ∧ some k_ ≠ (v279 : Value).ownBlock ∧ some k_ ≠ (v283 : Value).ownBlock ∧ some k_ ≠ (.slice Ao63 t288.length co63 : Value).ownBlock ∧ some k_ ≠ (.slice Ao73 t298.length co73 : Value).ownBlock ∧ some k_ ≠ (.slice Ao82 t305.length co82 : Value).ownBlock ∧ k_ ≠ gb265 ∧ k_ ≠ gb277 ∧ k_ ≠ gb292 ∧ k_ ≠ gb302 ∧ k_ ≠ gb310) (.slice Ao57 t271.length co57) t271) := ⟨(by rw [hw]; exact (by (with_reducible repeat (first | apply o' | apply n' | apply q')); exact ab' (y' (p := ⟨gb310, 2, none⟩) (y' (p := ⟨gb310, 1, none⟩) (y' (p := ⟨gb310, 0, none⟩) (ab' HO273.out (fun k_ hk => (⟨hk, hk.2⟩ : _ ∧ k_ ≠ gb310))) (fun _ hk => hk.2) (.int .i64 t303)) (fun _ hk => hk.2) (.int .i64 t304)) (fun _ hk => hk.2) (.slice Ao82 t305.length co82)) (fun _ hk => ⟨hk.1.1.1.1.1.1, ⟨hk.1.1.1.1.1.2.1, ⟨hk.1.1.1.1.1.2.2.1, ⟨hk.1.1.1.1.1.2.2.2.1, ⟨hk.1.1.1.1.2, ⟨hk.1.1.2, ⟨hk.1.1.1.1.1.2.2.2.2.1, ⟨hk.1.1.1.1.1.2.2.2.2.2.1, ⟨hk.1.1.1.1.1.2.2.2.2.2.2, ⟨hk.1.1.1.2, hk.1.2⟩⟩⟩⟩⟩⟩⟩⟩⟩⟩)))⟩; have n2_ : Aside0 (Kd.V (Kd.int .u8) 5 w83 w.heap.size (fun k_ => some k_ ≠ (.slice Ao53 t268.length co53 : Value).ownBlock ∧ some k_ ≠ (v279 : Value).ownBlock ∧ some k_ ≠ (v283 : Value).ownBlock ∧ some k_ ≠ (.slice Ao63 t288.length co63 : Value).ownBlock ∧ some k_ ≠ (.slice Ao73 t298.length co73 : Value).ownBlock ∧ some k_ ≠ (.slice Ao82 t305.length co82 : Value).ownBlock ∧ k_ ≠ gb265 ∧ k_ ≠ gb277 ∧ k_ ≠ gb292 ∧ k_ ≠ gb302 ∧ k_ ≠ gb310) (.slice Ao74 t274.length co74) t274) := ⟨(by rw [hw]; exact (by (with_reducible repeat (first | apply o' | apply n' | apply q')); exact ab' (y' (p := ⟨gb310, 2, none⟩) (y' (p := ⟨gb310, 1, none⟩) (y' (p := ⟨gb310, 0, none⟩) (ab' HO276.out (fun k_ hk => (⟨hk, hk.2⟩ : _ ∧ k_ ≠ gb310))) (fun _ hk => hk.2) (.int .i64 t303)) (fun _ hk => hk.2) (.int .i64 t304)) (fun _ hk => hk.2) (.slice Ao82 t305.length co82)) (fun _ hk => ⟨hk.1.1.1.1.1.1, ⟨hk.1.1.1.1.1.2.1, ⟨hk.1.1.1.1.1.2.2.1, ⟨hk.1.1.1.1.1.2.2.2.1, ⟨hk.1.1.1.1.2, ⟨hk.1.1.2, ⟨hk.1.1.1.1.1.2.2.2.2.1, ⟨hk.1.1.1.1.1.2.2.2.2.2.1, ⟨hk.1.1.1.1.1.2.2.2.2.2.2, ⟨hk.1.1.1.2, hk.1.2⟩⟩⟩⟩⟩⟩⟩⟩⟩⟩)))⟩; have n3_ : Aside0 (Kd.R (Kd.int .u8) 5 w83 w.heap.size (fun k_ => some k_ ≠ (.slice Ao53 t268.length co53 : Value).ownBlock ∧ some k_ ≠ (v283 : Value).ownBlock ∧ some k_ ≠ (.slice Ao63 t288.length co63 : Value).ownBlock ∧ some k_ ≠ (.slice Ao73 t298.length co73 : Value).ownBlock ∧ some k_ ≠ (.slice Ao82 t305.length co82 : Value).ownBlock) v279 t278) := ⟨(by rw [hw]; exact (by (with_reducible repeat (first | apply h' | apply g' | apply j')); exact z' (k' (p := ⟨gb310, 2, none⟩) (k' (p := ⟨gb310, 1, none⟩) (k' (p := ⟨gb310, 0, none⟩) (x' HO280.out BK310.out (by decide)) (fun _ hk => hk.2) (.int .i64 t303)) (fun _ hk => hk.2) (.int .i64 t304)) (fun _ hk => hk.2) (.slice Ao82 t305.length co82)) (fun _ hk => ⟨hk.1.1.1.1, ⟨hk.1.1.1.2.1, ⟨hk.1.1.1.2.2, ⟨hk.1.1.2, hk.1.2⟩⟩⟩⟩)))⟩; have n4_ : Aside0 (Kd.R (Kd.int .u8) 5 w83 w.heap.size (fun k_ => some k_ ≠ (.slice Ao53 t268.length co53 : Value).ownBlock ∧ some k_ ≠ (v279 : Value).ownBlock ∧ some k_ ≠ (.slice Ao63 t288.length co63 : Value).ownBlock ∧ some k_ ≠ (.slice Ao73 t298.length co73 : Value).ownBlock ∧ some k_ ≠ (.slice Ao82 t305.length co82 : Value).ownBlock) v283 t282) := ⟨(by rw [hw]; exact (by (with_reducible repeat (first | apply h' | apply g' | apply j')); exact z' (k' (p := ⟨gb310, 2, none⟩) (k' (p := ⟨gb310, 1, none⟩) (k' (p := ⟨gb310, 0, none⟩) (x' HO284.out BK310.out (by decide)) (fun _ hk => hk.2) (.int .i64 t303)) (fun _ hk => hk.2) (.int .i64 t304)) (fun _ hk => hk.2) (.slice Ao82 t305.length co82)) (fun _ hk => ⟨hk.1.1.1.1, ⟨hk.1.1.1.2.1, ⟨hk.1.1.1.2.2, ⟨hk.1.1.2, hk.1.2⟩⟩⟩⟩)))⟩; have n5_ : Aside0 (Kd.R (Kd.int .u8) 5 w83 w.heap.size (fun k_ => some k_ ≠ (.slice Ao53 t268.length co53 : Value).ownBlock ∧ some k_ ≠ (v279 : Value).ownBlock ∧ some k_ ≠ (v283 : Value).ownBlock ∧ some k_ ≠ (.slice Ao73 t298.length co73 : Value).ownBlock ∧ some k_ ≠ (.slice Ao82 t305.length co82 : Value).ownBlock) (.slice Ao63 t288.length co63) t288) := ⟨(by rw [hw]; exact (by (with_reducible repeat (first | apply h' | apply g' | apply j')); exact z' (k' (p := ⟨gb310, 2, none⟩) (k' (p := ⟨gb310, 1, none⟩) (k' (p := ⟨gb310, 0, none⟩) (x' HO290.out BK310.out (by decide)) (fun _ hk => hk.2) (.int .i64 t303)) (fun _ hk => hk.2) (.int .i64 t304)) (fun _ hk => hk.2) (.slice Ao82 t305.length co82)) (fun _ hk => ⟨hk.1.1.1.1, ⟨hk.1.1.1.2.1, ⟨hk.1.1.1.2.2, ⟨hk.1.1.2, hk.1.2⟩⟩⟩⟩)))⟩; have n6_ : Aside0 (Kd.V (Kd.int .u8) 5 w83 w.heap.size (fun k_ => some k_ ≠ (.slice Ao53 t268.length co53 : Value).ownBlock ∧ some k_ ≠ (v279 : Value).ownBlock ∧ some k_ ≠ (v283 : Value).ownBlock ∧ some k_ ≠ (.slice Ao63 t288.length co63 : Value).ownBlock ∧ some k_ ≠ (.slice Ao73 t298.length co73 : Value).ownBlock ∧ some k_ ≠ (.slice Ao82 t305.length co82 : Value).ownBlock ∧ k_ ≠ gb265 ∧ k_ ≠ gb277 ∧ k_ ≠ gb292 ∧ k_ ≠ gb302 ∧ k_ ≠ gb310) (.slice Ao66 t293.length co66) t293) := ⟨(by rw [hw]; exact (by (with_reducible repeat (first | apply o' | apply n' | apply q')); exact ab' (y' (p := ⟨gb310, 2, none⟩) (y' (p := ⟨gb310, 1, none⟩) (y' (p := ⟨gb310, 0, none⟩) (ab' HO295.out (fun k_ hk => (⟨hk, hk.2⟩ : _ ∧ k_ ≠ gb310))) (fun _ hk => hk.2) (.int .i64 t303)) (fun _ hk => hk.2) (.int .i64 t304)) (fun _ hk => hk.2) (.slice Ao82 t305.length co82)) (fun _ hk => ⟨hk.1.1.1.1.1.1, ⟨hk.1.1.1.1.1.2.1, ⟨hk.1.1.1.1.1.2.2.1, ⟨hk.1.1.1.1.1.2.2.2.1, ⟨hk.1.1.1.1.2, ⟨hk.1.1.2, ⟨hk.1.1.1.1.1.2.2.2.2.1, ⟨hk.1.1.1.1.1.2.2.2.2.2.1, ⟨hk.1.1.1.1.1.2.2.2.2.2.2, ⟨hk.1.1.1.2, hk.1.2⟩⟩⟩⟩⟩⟩⟩⟩⟩⟩)))⟩; have n7_ : Aside0 (Kd.R (Kd.int .u8) 5 w83 w.heap.size (fun k_ => some k_ ≠ (.slice Ao53 t268.length co53 : Value).ownBlock ∧ some k_ ≠ (v279 : Value).ownBlock ∧ some k_ ≠ (v283 : Value).ownBlock ∧ some k_ ≠ (.slice Ao63 t288.length co63 : Value).ownBlock ∧ some k_ ≠ (.slice Ao82 t305.length co82 : Value).ownBlock) (.slice Ao73 t298.length co73) t298) := ⟨(by rw [hw]; exact (by (with_reducible repeat (first | apply h' | apply g' | apply j')); exact z' (k' (p := ⟨gb310, 2, none⟩) (k' (p := ⟨gb310, 1, none⟩) (k' (p := ⟨gb310, 0, none⟩) (x' HO300.out BK310.out (by decide)) (fun _ hk => hk.2) (.int .i64 t303)) (fun _ hk => hk.2) (.int .i64 t304)) (fun _ hk => hk.2) (.slice Ao82 t305.length co82)) (fun _ hk => ⟨hk.1.1.1.1.1.2, ⟨hk.1.1.1.1.2, ⟨hk.1.1.1.2, ⟨hk.1.1.2, hk.1.2⟩⟩⟩⟩)))⟩; have n8_ : Aside0 (Kd.R (Kd.int .u8) 5 w83 w.heap.size (fun k_ => some k_ ≠ (.slice Ao53 t268.length co53 : Value).ownBlock ∧ some k_ ≠ (v279 : Value).ownBlock ∧ some k_ ≠ (v283 : Value).ownBlock ∧ some k_ ≠ (.slice Ao63 t288.length co63 : Value).ownBlock ∧ some k_ ≠ (.slice Ao73 t298.length co73 : Value).ownBlock) (.slice Ao82 t305.length co82) t305) := ⟨(by rw [hw]; exact (by (with_reducible repeat (first | apply h' | apply g' | apply j')); exact z' (k' (p := ⟨gb310, 2, none⟩) (k' (p := ⟨gb310, 1, none⟩) (k' (p := ⟨gb310, 0, none⟩) (x' HO307.out BK310.out (by decide)) (fun _ hk => hk.2) (.int .i64 t303)) (fun _ hk => hk.2) (.int .i64 t304)) (fun _ hk => hk.2) (.slice Ao82 t305.length co82)) (fun _ hk => ⟨hk.1.1.1.1.1.2, ⟨hk.1.1.1.1.2, ⟨hk.1.1.1.2, ⟨hk.1.1.2, hk.1.2⟩⟩⟩⟩)))⟩; have n9_ : Aside0 (w83.heap[gb265]? = some (.cells #[.int .i64 a0_0, .int .i64 a0_1, .slice A0_2 l0_2.length c0_2] 24 (0, 0))) := ⟨(by rw [hw]; exact (by (with_reducible repeat (first | apply c' | apply f' | apply d')); refine aa' ?_ NB265_310.out _; (with_reducible repeat (first | apply c' | apply f' | apply d')); refine aa' ?_ NB265_310.out _; (with_reducible repeat (first | apply c' | apply f' | apply d')); refine aa' ?_ NB265_310.out _; (with_reducible repeat (first | apply c' | apply f' | apply d')); exact BK265.out))⟩; have n10_ : Aside0 (w83.heap[gb277]? = some (.cells #[.int .i64 t266, .int .i64 t267, .slice Ao53 t268.length co53] 25 (0, 0))) := ⟨(by rw [hw]; exact (by (with_reducible repeat (first | apply c' | apply f' | apply d')); refine aa' ?_ NB277_310.out _; (with_reducible repeat (first | apply c' | apply f' | apply d')); refine aa' ?_ NB277_310.out _; (with_reducible repeat (first | apply c' | apply f' | apply d')); refine aa' ?_ NB277_310.out _; (with_reducible repeat (first | apply c' | apply f' | apply d')); exact BK277.out))⟩; have n11_ : Aside0 (w83.heap[gb292]? = some (.cells #[.int .i64 t286, .int .i64 t287, .slice Ao63 t288.length co63] 25 (0, 0))) := ⟨(by rw [hw]; exact (by (with_reducible repeat (first | apply c' | apply f' | apply d')); refine aa' ?_ NB292_310.out _; (with_reducible repeat (first | apply c' | apply f' | apply d')); refine aa' ?_ NB292_310.out _; (with_reducible repeat (first | apply c' | apply f' | apply d')); refine aa' ?_ NB292_310.out _; (with_reducible repeat (first | apply c' | apply f' | apply d')); exact BK292.out))⟩; have n12_ : Aside0 (w83.heap[gb302]? = some (.cells #[.int .i64 t296, .int .i64 t297, .slice Ao73 t298.length co73] 24 (0, 0))) := ⟨(by rw [hw]; exact (by (with_reducible repeat (first | apply c' | apply f' | apply d')); refine aa' ?_ NB302_310.out _; (with_reducible repeat (first | apply c' | apply f' | apply d')); refine aa' ?_ NB302_310.out _; (with_reducible repeat (first | apply c' | apply f' | apply d')); refine aa' ?_ NB302_310.out _; (with_reducible repeat (first | apply c' | apply f' | apply d')); exact BK302.out))⟩; have n13_ : Aside0 (w83.heap[gb310]? = some (.cells #[.int .i64 t303, .int .i64 t304, .slice Ao82 t305.length co82] 25 (0, 0))) := ⟨(by rw [hw]; exact (by (with_reducible repeat (first | apply c' | apply f' | apply d')); refine blk_put (cs := #[.int .i64 t303, .int .i64 t304, .slice none 0 0]) ?_ 2 _ rfl; (with_reducible repeat (first | apply c' | apply f' | apply d')); refine blk_put (cs := #[.int .i64 t303, .int .i64 0, .slice none 0 0]) ?_ 1 _ rfl; (with_reducible repeat (first | apply c' | apply f' | apply d')); refine blk_put (cs := #[.int .i64 0, .int .i64 0, .slice none 0 0]) ?_ 0 _ rfl; (with_reducible repeat (first | apply c' | apply f' | apply d')); exact BK310.out))⟩; have n14_ : Aside0 (Below w.heap.size w w83) := ⟨(by rw [hw]; exact (by repeat (first | (with_reducible first | exact HB.out | apply s' | apply p' | apply r' | refine e' ?_ GE265.out | refine e' ?_ GE277.out | refine e' ?_ GE292.out | refine e' ?_ GE302.out | refine e' ?_ GE310.out) | exact HB.out)))⟩; clear hw; clear HO270; clear HO273; clear HO276; clear HO280; clear HO284; clear HO290; clear HO295; clear HO300; clear HO307; clear BK265; clear BK277; clear BK292; clear BK302; clear BK310; clear HB; have HO270 := n0_; have HO273 := n1_; have HO276 := n2_; have HO280 := n3_; have HO284 := n4_; have HO290 := n5_; have HO295 := n6_; have HO300 := n7_; have HO307 := n8_; have BK265 := n9_; have BK277 := n10_; have BK292 := n11_; have BK302 := n12_; have BK310 := n13_; have HB := n14_; clear n0_ n1_ n2_ n3_ n4_ n5_ n6_ n7_ n8_ n9_ n10_ n11_ n12_ n13_ n14_) | ((with_reducible refine gate_callee (f := 14) rfl ?_); refine goesL_ (some 64) rfl rfl Try.func14 (by kernel_rfl) rfl #[.slice A1 l1.length c1] rfl (by (try simp only [cb', cc', cd']); first | done | rfl | (simp only [ce', cf']; rfl)) ?_; (with_reducible refine (fanlightlaw07_slot.calls (fun k_ => k_ < w.heap.size) _ _ l1 t311 _ ?side1 A13.out).mono ?_); (case side1 => exact Kd.V_mk HC1.out (Kd.F_below (Kd.C_F (Kd.heap_int .u8) HR1.out) (by repeat (first | (with_reducible first | exact HB.out | apply s' | apply p' | apply r' | refine e' ?_ GE265.out | refine e' ?_ GE277.out | refine e' ?_ GE292.out | refine e' ?_ GE302.out | refine e' ?_ GE310.out) | exact HB.out)))); rintro e w84 ⟨v312, rfl, ho0, hb⟩; refine ⟨_, rfl, ?_⟩; have n0_ := cg' (l' (by (with_reducible repeat (first | apply h' | apply g' | apply j')); exact HO270.out) hb); have n1_ := cg' (v' (by (with_reducible repeat (first | apply o' | apply n' | apply q')); exact HO273.out) hb); have n2_ := cg' (v' (by (with_reducible repeat (first | apply o' | apply n' | apply q')); exact HO276.out) hb); have n3_ := cg' (l' (by (with_reducible repeat (first | apply h' | apply g' | apply j')); exact HO280.out) hb); have n4_ := cg' (l' (by (with_reducible repeat (first | apply h' | apply g' | apply j')); exact HO284.out) hb); have n5_ := cg' (l' (by (with_reducible repeat (first | apply h' | apply g' | apply j')); exact HO290.out) hb); have n6_ := cg' (v' (by (with_reducible repeat (first | apply o' | apply n' | apply q')); exact HO295.out) hb); have n7_ := cg' (l' (by (with_reducible repeat (first | apply h' | apply g' | apply j')); exact HO300.out) hb); have n8_ := cg' (l' (by (with_reducible repeat (first | apply h' | apply g' | apply j')); exact HO307.out) hb); have n9_ := cg' (Kd.V_lower (ab' (ok' := fun k_ => some k_ ≠ (.slice Ao53 t268.length co53 : Value).ownBlock ∧ some k_ ≠ (v279 : Value).ownBlock ∧ some k_ ≠ (v283 : Value).ownBlock ∧ some k_ ≠ (.slice Ao63 t288.length co63 : Value).ownBlock ∧ some k_ ≠ (.slice Ao73 t298.length co73 : Value).ownBlock ∧ some k_ ≠ (.slice Ao82 t305.length co82 : Value).ownBlock ∧ k_ ≠ gb265 ∧ k_ ≠ gb277 ∧ k_ ≠ gb292 ∧ k_ ≠ gb302 ∧ k_ ≠ gb310) ho0 (fun k_ hk_ => ⟨Or.elim hk_ (fun hs_ => fun e_ => Nat.not_le.2 hs_ (u' HO270.out k_ e_.symm)) (fun hn_ => (bc' (ad' (by (with_reducible repeat (first | apply h' | apply g' | apply j')); exact HO270.out)) k_ hn_)), Or.elim hk_ (fun hs_ => fun e_ => Nat.not_le.2 hs_ (u' HO280.out k_ e_.symm)) (fun hn_ => (bc' (ad' (by (with_reducible repeat (first | apply h' | apply g' | apply j')); exact HO280.out)) k_ hn_)), Or.elim hk_ (fun hs_ => fun e_ => Nat.not_le.2 hs_ (u' HO284.out k_ e_.symm)) (fun hn_ => (bc' (ad' (by (with_reducible repeat (first | apply h' | apply g' | apply j')); exact HO284.out)) k_ hn_)), Or.elim hk_ (fun hs_ => fun e_ => Nat.not_le.2 hs_ (u' HO290.out k_ e_.symm)) (fun hn_ => (bc' (ad' (by (with_reducible repeat (first | apply h' | apply g' | apply j')); exact HO290.out)) k_ hn_)), Or.elim hk_ (fun hs_ => fun e_ => Nat.not_le.2 hs_ (u' HO300.out k_ e_.symm)) (fun hn_ => (bc' (ad' (by (with_reducible repeat (first | apply h' | apply g' | apply j')); exact HO300.out)) k_ hn_)), Or.elim hk_ (fun hs_ => fun e_ => Nat.not_le.2 hs_ (u' HO307.out k_ e_.symm)) (fun hn_ => (bc' (ad' (by (with_reducible repeat (first | apply h' | apply g' | apply j')); exact HO307.out)) k_ hn_)), Or.elim hk_ (fun hs_ => fun e_ => Nat.not_le.2 hs_ (by rw [e_]; exact GW265.out)) (fun hn_ => (bd' (g := gb265) (o := .cells #[.int .i64 a0_0, .int .i64 a0_1, .slice A0_2 l0_2.length c0_2] 24 (0, 0)) (by (with_reducible repeat (first | apply c' | apply f' | apply d')); exact BK265.out) k_ hn_)), Or.elim hk_ (fun hs_ => fun e_ => Nat.not_le.2 hs_ (by rw [e_]; exact GW277.out)) (fun hn_ => (bd' (g := gb277) (o := .cells #[.int .i64 t266, .int .i64 t267, .slice Ao53 t268.length co53] 25 (0, 0)) (by (with_reducible repeat (first | apply c' | apply f' | apply d')); exact BK277.out) k_ hn_)), Or.elim hk_ (fun hs_ => fun e_ => Nat.not_le.2 hs_ (by rw [e_]; exact GW292.out)) (fun hn_ => (bd' (g := gb292) (o := .cells #[.int .i64 t286, .int .i64 t287, .slice Ao63 t288.length co63] 25 (0, 0)) (by (with_reducible repeat (first | apply c' | apply f' | apply d')); exact BK292.out) k_ hn_)), Or.elim hk_ (fun hs_ => fun e_ => Nat.not_le.2 hs_ (by rw [e_]; exact GW302.out)) (fun hn_ => (bd' (g := gb302) (o := .cells #[.int .i64 t296, .int .i64 t297, .slice Ao73 t298.length co73] 24 (0, 0)) (by (with_reducible repeat (first | apply c' | apply f' | apply d')); exact BK302.out) k_ hn_)), Or.elim hk_ (fun hs_ => fun e_ => Nat.not_le.2 hs_ (by rw [e_]; exact GW310.out)) (fun hn_ => (bd' (g := gb310) (o := .cells #[.int .i64 t303, .int .i64 t304, .slice Ao82 t305.length co82] 25 (0, 0)) (by (with_reducible repeat (first | apply c' | apply f' | apply d')); exact BK310.out) k_ hn_))⟩)) (af' (by repeat (first | (with_reducible first | exact HB.out | apply s' | apply p' | apply r' | refine e' ?_ GE265.out | refine e' ?_ GE277.out | refine e' ?_ GE292.out | refine e' ?_ GE302.out | refine e' ?_ GE310.out) | exact HB.out)))); have n10_ := cg' (m' (g := gb265) (o := .cells #[.int .i64 a0_0, .int .i64 a0_1, .slice A0_2 l0_2.length c0_2] 24 (0, 0)) (by (with_reducible repeat (first | apply c' | apply f' | apply d')); exact BK265.out) hb); have n11_ := cg' (m' (g := gb277) (o := .cells #[.int .i64 t266, .int .i64 t267, .slice Ao53 t268.length co53] 25 (0, 0)) (by (with_reducible repeat (first | apply c' | apply f' | apply d')); exact BK277.out) hb); have n12_ := cg' (m' (g := gb292) (o := .cells #[.int .i64 t286, .int .i64 t287, .slice Ao63 t288.length co63] 25 (0, 0)) (by (with_reducible repeat (first | apply c' | apply f' | apply d')); exact BK292.out) hb); have n13_ := cg' (m' (g := gb302) (o := .cells #[.int .i64 t296, .int .i64 t297, .slice Ao73 t298.length co73] 24 (0, 0)) (by (with_reducible repeat (first | apply c' | apply f' | apply d')); exact BK302.out) hb); have n14_ := cg' (m' (g := gb310) (o := .cells #[.int .i64 t303, .int .i64 t304, .slice Ao82 t305.length co82] 25 (0, 0)) (by (with_reducible repeat (first | apply c' | apply f' | apply d')); exact BK310.out) hb); have n15_ := cg' (ah' (by repeat (first | (with_reducible first | exact HB.out | apply s' | apply p' | apply r' | refine e' ?_ GE265.out | refine e' ?_ GE277.out | refine e' ?_ GE292.out | refine e' ?_ GE302.out | refine e' ?_ GE310.out) | exact HB.out)) hb); clear HO270; clear HO273; clear HO276; clear HO280; clear HO284; clear HO290; clear HO295; clear HO300; clear HO307; clear BK265; clear BK277; clear BK292; clear BK302; clear BK310; clear HB; have HO270 := n0_; have HO273 := n1_; have HO276 := n2_; have HO280 := n3_; have HO284 := n4_; have HO290 := n5_; have HO295 := n6_; have HO300 := n7_; have HO307 := n8_; have HO313 := n9_; have BK265 := n10_; have BK277 := n11_; have BK292 := n12_; have BK302 := n13_; have BK310 := n14_; have HB := n15_; clear n0_ n1_ n2_ n3_ n4_ n5_ n6_ n7_ n8_ n9_ n10_ n11_ n12_ n13_ n14_ n15_; (try clear hb); (try clear hb2); (try clear hk); (try clear hi); (try clear ho0)) | ((with_reducible refine gate_callee (f := 14) rfl ?_); refine goesL_ (some 66) rfl rfl Try.func14 (by kernel_rfl) rfl #[.slice A2 l2.length c2] rfl (by (try simp only [cb', cc', cd']); first | done | rfl | (simp only [ce', cf']; rfl)) ?_; (with_reducible refine (fanlightlaw07_slot.calls (fun k_ => k_ < w.heap.size) _ _ l2 t314 _ ?side1 A14.out).mono ?_); (case side1 => exact Kd.V_mk HC2.out (Kd.F_below (Kd.C_F (Kd.heap_int .u8) HR2.out) (by repeat (first | (with_reducible first | exact HB.out | apply s' | apply p' | apply r' | refine e' ?_ GE265.out | refine e' ?_ GE277.out | refine e' ?_ GE292.out | refine e' ?_ GE302.out | refine e' ?_ GE310.out) | exact HB.out)))); rintro e w85 ⟨v315, rfl, ho0, hb⟩; refine ⟨_, rfl, ?_⟩; have n0_ := cg' (l' (by (with_reducible repeat (first | apply h' | apply g' | apply j')); exact HO270.out) hb); have n1_ := cg' (v' (by (with_reducible repeat (first | apply o' | apply n' | apply q')); exact HO273.out) hb); have n2_ := cg' (v' (by (with_reducible repeat (first | apply o' | apply n' | apply q')); exact HO276.out) hb); have n3_ := cg' (l' (by (with_reducible repeat (first | apply h' | apply g' | apply j')); exact HO280.out) hb); have n4_ := cg' (l' (by (with_reducible repeat (first | apply h' | apply g' | apply j')); exact HO284.out) hb); have n5_ := cg' (l' (by (with_reducible repeat (first | apply h' | apply g' | apply j')); exact HO290.out) hb); have n6_ := cg' (v' (by (with_reducible repeat (first | apply o' | apply n' | apply q')); exact HO295.out) hb); have n7_ := cg' (l' (by (with_reducible repeat (first | apply h' | apply g' | apply j')); exact HO300.out) hb); have n8_ := cg' (l' (by (with_reducible repeat (first | apply h' | apply g' | apply j')); exact HO307.out) hb); have n9_ := cg' (v' (by (with_reducible repeat (first | apply o' | apply n' | apply q')); exact HO313.out) hb); have n10_ := cg' (Kd.V_lower (ab' (ok' := fun k_ => some k_ ≠ (.slice Ao53 t268.length co53 : Value).ownBlock ∧ some k_ ≠ (v279 : Value).ownBlock ∧ some k_ ≠ (v283 : Value).ownBlock ∧ some k_ ≠ (.slice Ao63 t288.length co63 : Value).ownBlock ∧ some k_ ≠ (.slice Ao73 t298.length co73 : Value).ownBlock ∧ some k_ ≠ (.slice Ao82 t305.length co82 : Value).ownBlock ∧ k_ ≠ gb265 ∧ k_ ≠ gb277 ∧ k_ ≠ gb292 ∧ k_ ≠ gb302 ∧ k_ ≠ gb310) ho0 (fun k_ hk_ => ⟨Or.elim hk_ (fun hs_ => fun e_ => Nat.not_le.2 hs_ (u' HO270.out k_ e_.symm)) (fun hn_ => (bc' (ad' (by (with_reducible repeat (first | apply h' | apply g' | apply j')); exact HO270.out)) k_ hn_)), Or.elim hk_ (fun hs_ => fun e_ => Nat.not_le.2 hs_ (u' HO280.out k_ e_.symm)) (fun hn_ => (bc' (ad' (by (with_reducible repeat (first | apply h' | apply g' | apply j')); exact HO280.out)) k_ hn_)), Or.elim hk_ (fun hs_ => fun e_ => Nat.not_le.2 hs_ (u' HO284.out k_ e_.symm)) (fun hn_ => (bc' (ad' (by (with_reducible repeat (first | apply h' | apply g' | apply j')); exact HO284.out)) k_ hn_)), Or.elim hk_ (fun hs_ => fun e_ => Nat.not_le.2 hs_ (u' HO290.out k_ e_.symm)) (fun hn_ => (bc' (ad' (by (with_reducible repeat (first | apply h' | apply g' | apply j')); exact HO290.out)) k_ hn_)), Or.elim hk_ (fun hs_ => fun e_ => Nat.not_le.2 hs_ (u' HO300.out k_ e_.symm)) (fun hn_ => (bc' (ad' (by (with_reducible repeat (first | apply h' | apply g' | apply j')); exact HO300.out)) k_ hn_)), Or.elim hk_ (fun hs_ => fun e_ => Nat.not_le.2 hs_ (u' HO307.out k_ e_.symm)) (fun hn_ => (bc' (ad' (by (with_reducible repeat (first | apply h' | apply g' | apply j')); exact HO307.out)) k_ hn_)), Or.elim hk_ (fun hs_ => fun e_ => Nat.not_le.2 hs_ (by rw [e_]; exact GW265.out)) (fun hn_ => (bd' (g := gb265) (o := .cells #[.int .i64 a0_0, .int .i64 a0_1, .slice A0_2 l0_2.length c0_2] 24 (0, 0)) (by (with_reducible repeat (first | apply c' | apply f' | apply d')); exact BK265.out) k_ hn_)), Or.elim hk_ (fun hs_ => fun e_ => Nat.not_le.2 hs_ (by rw [e_]; exact GW277.out)) (fun hn_ => (bd' (g := gb277) (o := .cells #[.int .i64 t266, .int .i64 t267, .slice Ao53 t268.length co53] 25 (0, 0)) (by (with_reducible repeat (first | apply c' | apply f' | apply d')); exact BK277.out) k_ hn_)), Or.elim hk_ (fun hs_ => fun e_ => Nat.not_le.2 hs_ (by rw [e_]; exact GW292.out)) (fun hn_ => (bd' (g := gb292) (o := .cells #[.int .i64 t286, .int .i64 t287, .slice Ao63 t288.length co63] 25 (0, 0)) (by (with_reducible repeat (first | apply c' | apply f' | apply d')); exact BK292.out) k_ hn_)), Or.elim hk_ (fun hs_ => fun e_ => Nat.not_le.2 hs_ (by rw [e_]; exact GW302.out)) (fun hn_ => (bd' (g := gb302) (o := .cells #[.int .i64 t296, .int .i64 t297, .slice Ao73 t298.length co73] 24 (0, 0)) (by (with_reducible repeat (first | apply c' | apply f' | apply d')); exact BK302.out) k_ hn_)), Or.elim hk_ (fun hs_ => fun e_ => Nat.not_le.2 hs_ (by rw [e_]; exact GW310.out)) (fun hn_ => (bd' (g := gb310) (o := .cells #[.int .i64 t303, .int .i64 t304, .slice Ao82 t305.length co82] 25 (0, 0)) (by (with_reducible repeat (first | apply c' | apply f' | apply d')); exact BK310.out) k_ hn_))⟩)) (af' (by repeat (first | (with_reducible first | exact HB.out | apply s' | apply p' | apply r' | refine e' ?_ GE265.out | refine e' ?_ GE277.out | refine e' ?_ GE292.out | refine e' ?_ GE302.out | refine e' ?_ GE310.out) | exact HB.out)))); have n11_ := cg' (m' (g := gb265) (o := .cells #[.int .i64 a0_0, .int .i64 a0_1, .slice A0_2 l0_2.length c0_2] 24 (0, 0)) (by (with_reducible repeat (first | apply c' | apply f' | apply d')); exact BK265.out) hb); have n12_ := cg' (m' (g := gb277) (o := .cells #[.int .i64 t266, .int .i64 t267, .slice Ao53 t268.length co53] 25 (0, 0)) (by (with_reducible repeat (first | apply c' | apply f' | apply d')); exact BK277.out) hb); have n13_ := cg' (m' (g := gb292) (o := .cells #[.int .i64 t286, .int .i64 t287, .slice Ao63 t288.length co63] 25 (0, 0)) (by (with_reducible repeat (first | apply c' | apply f' | apply d')); exact BK292.out) hb); have n14_ := cg' (m' (g := gb302) (o := .cells #[.int .i64 t296, .int .i64 t297, .slice Ao73 t298.length co73] 24 (0, 0)) (by (with_reducible repeat (first | apply c' | apply f' | apply d')); exact BK302.out) hb); have n15_ := cg' (m' (g := gb310) (o := .cells #[.int .i64 t303, .int .i64 t304, .slice Ao82 t305.length co82] 25 (0, 0)) (by (with_reducible repeat (first | apply c' | apply f' | apply d')); exact BK310.out) hb); have n16_ := cg' (ah' (by repeat (first | (with_reducible first | exact HB.out | apply s' | apply p' | apply r' | refine e' ?_ GE265.out | refine e' ?_ GE277.out | refine e' ?_ GE292.out | refine e' ?_ GE302.out | refine e' ?_ GE310.out) | exact HB.out)) hb); clear HO270; clear HO273; clear HO276; clear HO280; clear HO284; clear HO290; clear HO295; clear HO300; clear HO307; clear HO313; clear BK265; clear BK277; clear BK292; clear BK302; clear BK310; clear HB; have HO270 := n0_; have HO273 := n1_; have HO276 := n2_; have HO280 := n3_; have HO284 := n4_; have HO290 := n5_; have HO295 := n6_; have HO300 := n7_; have HO307 := n8_; have HO313 := n9_; have HO316 := n10_; have BK265 := n11_; have BK277 := n12_; have BK292 := n13_; have BK302 := n14_; have BK310 := n15_; have HB := n16_; clear n0_ n1_ n2_ n3_ n4_ n5_ n6_ n7_ n8_ n9_ n10_ n11_ n12_ n13_ n14_ n15_ n16_; (try clear hb); (try clear hb2); (try clear hk); (try clear hi); (try clear ho0); obtain ⟨Ao86, co86, eo86⟩ := Kd.V_slice HO313.out; subst eo86; obtain ⟨Ao87, co87, eo87⟩ := Kd.V_slice HO316.out; subst eo87) | ((with_reducible refine gate_callee (f := 20) rfl ?_); refine goesL_ (some 67) rfl rfl Try.func20 (by kernel_rfl) rfl #[.slice Ao86 t311.length co86, .slice Ao87 t314.length co87] rfl (by (try simp only [cb', cc', cd']); first | done | rfl | (simp only [ce', cf']; rfl)) ?_; (with_reducible refine (fanlightref07_Newest.calls k _ _ t311 _ _ t314 t317 t318 t319 t322 t323 _ ?side1 ?side2 ?side3 ?side4 A15.out).mono ?_); (case side1 => repeat (first | exact (Kd.V_reads' HO313.out).2.2 | (with_reducible refine bf' ?_ _) | (with_reducible refine be' ?_ _) | (with_reducible refine Kd.C_drew ?_))); (case side2 => exact (Kd.V_reads' HO313.out).2.1); (case side3 => repeat (first | exact (Kd.V_reads' HO316.out).2.2 | (with_reducible refine bf' ?_ _) | (with_reducible refine be' ?_ _) | (with_reducible refine Kd.C_drew ?_))); (case side4 => exact (Kd.V_reads' HO316.out).2.1); rintro e w88 ⟨v320, rfl, ho0, hb⟩; refine ⟨_, rfl, ?_⟩; have n0_ := cg' (ac' (by (with_reducible repeat (first | apply h' | apply g' | apply j')); exact HO270.out) (u' ho0) hb); have n1_ := cg' (ag' (by (with_reducible repeat (first | apply o' | apply n' | apply q')); exact HO273.out) (u' ho0) hb); have n2_ := cg' (ag' (by (with_reducible repeat (first | apply o' | apply n' | apply q')); exact HO276.out) (u' ho0) hb); have n3_ := cg' (ac' (by (with_reducible repeat (first | apply h' | apply g' | apply j')); exact HO280.out) (u' ho0) hb); have n4_ := cg' (ac' (by (with_reducible repeat (first | apply h' | apply g' | apply j')); exact HO284.out) (u' ho0) hb); have n5_ := cg' (ac' (by (with_reducible repeat (first | apply h' | apply g' | apply j')); exact HO290.out) (u' ho0) hb); have n6_ := cg' (ag' (by (with_reducible repeat (first | apply o' | apply n' | apply q')); exact HO295.out) (u' ho0) hb); have n7_ := cg' (ac' (by (with_reducible repeat (first | apply h' | apply g' | apply j')); exact HO300.out) (u' ho0) hb); have n8_ := cg' (ac' (by (with_reducible repeat (first | apply h' | apply g' | apply j')); exact HO307.out) (u' ho0) hb); have n9_ := cg' (ag' (by (with_reducible repeat (first | apply o' | apply n' | apply q')); exact HO313.out) (u' ho0) hb); have n10_ := cg' (ag' (by (with_reducible repeat (first | apply o' | apply n' | apply q')); exact HO316.out) (u' ho0) hb); have n11_ := cg' (Kd.R_lower (ae' (ae' (ae' (ae' (ae' (ae' ho0 (ad' (by (with_reducible repeat (first | apply h' | apply g' | apply j')); exact HO270.out))) (ad' (by (with_reducible repeat (first | apply h' | apply g' | apply j')); exact HO280.out))) (ad' (by (with_reducible repeat (first | apply h' | apply g' | apply j')); exact HO284.out))) (ad' (by (with_reducible repeat (first | apply h' | apply g' | apply j')); exact HO290.out))) (ad' (by (with_reducible repeat (first | apply h' | apply g' | apply j')); exact HO300.out))) (ad' (by (with_reducible repeat (first | apply h' | apply g' | apply j')); exact HO307.out))) (af' (by repeat (first | (with_reducible first | exact HB.out | apply s' | apply p' | apply r' | refine e' ?_ GE265.out | refine e' ?_ GE277.out | refine e' ?_ GE292.out | refine e' ?_ GE302.out | refine e' ?_ GE310.out) | exact HB.out)))); have n12_ := cg' (m' (g := gb265) (o := .cells #[.int .i64 a0_0, .int .i64 a0_1, .slice A0_2 l0_2.length c0_2] 24 (0, 0)) (by (with_reducible repeat (first | apply c' | apply f' | apply d')); exact BK265.out) hb); have n13_ := cg' (m' (g := gb277) (o := .cells #[.int .i64 t266, .int .i64 t267, .slice Ao53 t268.length co53] 25 (0, 0)) (by (with_reducible repeat (first | apply c' | apply f' | apply d')); exact BK277.out) hb); have n14_ := cg' (m' (g := gb292) (o := .cells #[.int .i64 t286, .int .i64 t287, .slice Ao63 t288.length co63] 25 (0, 0)) (by (with_reducible repeat (first | apply c' | apply f' | apply d')); exact BK292.out) hb); have n15_ := cg' (m' (g := gb302) (o := .cells #[.int .i64 t296, .int .i64 t297, .slice Ao73 t298.length co73] 24 (0, 0)) (by (with_reducible repeat (first | apply c' | apply f' | apply d')); exact BK302.out) hb); have n16_ := cg' (m' (g := gb310) (o := .cells #[.int .i64 t303, .int .i64 t304, .slice Ao82 t305.length co82] 25 (0, 0)) (by (with_reducible repeat (first | apply c' | apply f' | apply d')); exact BK310.out) hb); have n17_ := cg' (ah' (by repeat (first | (with_reducible first | exact HB.out | apply s' | apply p' | apply r' | refine e' ?_ GE265.out | refine e' ?_ GE277.out | refine e' ?_ GE292.out | refine e' ?_ GE302.out | refine e' ?_ GE310.out) | exact HB.out)) hb); clear HO270; clear HO273; clear HO276; clear HO280; clear HO284; clear HO290; clear HO295; clear HO300; clear HO307; clear HO313; clear HO316; clear BK265; clear BK277; clear BK292; clear BK302; clear BK310; clear HB; have HO270 := n0_; have HO273 := n1_; have HO276 := n2_; have HO280 := n3_; have HO284 := n4_; have HO290 := n5_; have HO295 := n6_; have HO300 := n7_; have HO307 := n8_; have HO313 := n9_; have HO316 := n10_; have HO321 := n11_; have BK265 := n12_; have BK277 := n13_; have BK292 := n14_; have BK302 := n15_; have BK310 := n16_; have HB := n17_; clear n0_ n1_ n2_ n3_ n4_ n5_ n6_ n7_ n8_ n9_ n10_ n11_ n12_ n13_ n14_ n15_ n16_ n17_; (try clear hb); (try clear hb2); (try clear hk); (try clear hi); (try clear ho0)) | ((with_reducible refine gate_dst (N := 21) rfl ?_); refine box_event ?hg (N := 21) ?hd (cs := #[.int .i64 0, .int .i64 0, .slice none 0 0]) (t := 24) ?hr ?_; (case hd => rfl); (case hg => rfl); (case hr => first | (go_simp; done) | (go_simp; rfl)); intro gb324 hg w89 hbox hb; have n0_ := cg' (l' (by (with_reducible repeat (first | apply h' | apply g' | apply j')); exact HO270.out) hb); have n1_ := cg' (v' (Kd.V_elderB (by (with_reducible repeat (first | apply o' | apply n' | apply q')); exact HO273.out) gb324 (Nat.le_of_eq hg.symm)) hb); have n2_ := cg' (v' (Kd.V_elderB (by (with_reducible repeat (first | apply o' | apply n' | apply q')); exact HO276.out) gb324 (Nat.le_of_eq hg.symm)) hb); have n3_ := cg' (l' (by (with_reducible repeat (first | apply h' | apply g' | apply j')); exact HO280.out) hb); have n4_ := cg' (l' (by (with_reducible repeat (first | apply h' | apply g' | apply j')); exact HO284.out) hb); have n5_ := cg' (l' (by (with_reducible repeat (first | apply h' | apply g' | apply j')); exact HO290.out) hb); have n6_ := cg' (v' (Kd.V_elderB (by (with_reducible repeat (first | apply o' | apply n' | apply q')); exact HO295.out) gb324 (Nat.le_of_eq hg.symm)) hb); have n7_ := cg' (l' (by (with_reducible repeat (first | apply h' | apply g' | apply j')); exact HO300.out) hb); have n8_ := cg' (l' (by (with_reducible repeat (first | apply h' | apply g' | apply j')); exact HO307.out) hb); have n9_ := cg' (v' (Kd.V_elderB (by (with_reducible repeat (first | apply o' | apply n' | apply q')); exact HO313.out) gb324 (Nat.le_of_eq hg.symm)) hb); have n10_ := cg' (v' (Kd.V_elderB (by (with_reducible repeat (first | apply o' | apply n' | apply q')); exact HO316.out) gb324 (Nat.le_of_eq hg.symm)) hb); have n11_ := cg' (l' (by (with_reducible repeat (first | apply h' | apply g' | apply j')); exact HO321.out) hb); have n12_ := cg' (m' (g := gb265) (o := .cells #[.int .i64 a0_0, .int .i64 a0_1, .slice A0_2 l0_2.length c0_2] 24 (0, 0)) (by (with_reducible repeat (first | apply c' | apply f' | apply d')); exact BK265.out) hb); have n13_ := cg' (m' (g := gb277) (o := .cells #[.int .i64 t266, .int .i64 t267, .slice Ao53 t268.length co53] 25 (0, 0)) (by (with_reducible repeat (first | apply c' | apply f' | apply d')); exact BK277.out) hb); have n14_ := cg' (m' (g := gb292) (o := .cells #[.int .i64 t286, .int .i64 t287, .slice Ao63 t288.length co63] 25 (0, 0)) (by (with_reducible repeat (first | apply c' | apply f' | apply d')); exact BK292.out) hb); have n15_ := cg' (m' (g := gb302) (o := .cells #[.int .i64 t296, .int .i64 t297, .slice Ao73 t298.length co73] 24 (0, 0)) (by (with_reducible repeat (first | apply c' | apply f' | apply d')); exact BK302.out) hb); have n16_ := cg' (m' (g := gb310) (o := .cells #[.int .i64 t303, .int .i64 t304, .slice Ao82 t305.length co82] 25 (0, 0)) (by (with_reducible repeat (first | apply c' | apply f' | apply d')); exact BK310.out) hb); have n17_ := cg' (ah' (by repeat (first | (with_reducible first | exact HB.out | apply s' | apply p' | apply r' | refine e' ?_ GE265.out | refine e' ?_ GE277.out | refine e' ?_ GE292.out | refine e' ?_ GE302.out | refine e' ?_ GE310.out) | exact HB.out)) hb); have n18_ := cg' (hbox); have n19_ := cg' ((by rw [hg]; exact (af' (by repeat (first | (with_reducible first | exact HB.out | apply s' | apply p' | apply r' | refine e' ?_ GE265.out | refine e' ?_ GE277.out | refine e' ?_ GE292.out | refine e' ?_ GE302.out | refine e' ?_ GE310.out) | exact HB.out))) : w.heap.size ≤ gb324)); have n20_ := cg' ((by rw [hg]; exact (af' (by repeat (first | (with_reducible first | exact HB.out | apply s' | apply p' | apply r' | refine e' ?_ GE265.out | refine e' ?_ GE277.out | refine e' ?_ GE292.out | refine e' ?_ GE302.out | refine e' ?_ GE310.out) | exact HB.out))) : w.heap.size ≤ gb324)); have n21_ := cg' ((by rw [hg]; exact Nat.ne_of_lt (blk_lt (g := gb265) (o := .cells #[.int .i64 a0_0, .int .i64 a0_1, .slice A0_2 l0_2.length c0_2] 24 (0, 0)) (by (with_reducible repeat (first | apply c' | apply f' | apply d')); exact BK265.out)) : gb265 ≠ gb324)); have n22_ := cg' ((by rw [hg]; exact Nat.ne_of_gt (blk_lt (g := gb265) (o := .cells #[.int .i64 a0_0, .int .i64 a0_1, .slice A0_2 l0_2.length c0_2] 24 (0, 0)) (by (with_reducible repeat (first | apply c' | apply f' | apply d')); exact BK265.out)) : gb324 ≠ gb265)); have n23_ := cg' ((by rw [hg]; exact Nat.ne_of_lt (blk_lt (g := gb277) (o := .cells #[.int .i64 t266, .int .i64 t267, .slice Ao53 t268.length co53] 25 (0, 0)) (by (with_reducible repeat (first | apply c' | apply f' | apply d')); exact BK277.out)) : gb277 ≠ gb324)); have n24_ := cg' ((by rw [hg]; exact Nat.ne_of_gt (blk_lt (g := gb277) (o := .cells #[.int .i64 t266, .int .i64 t267, .slice Ao53 t268.length co53] 25 (0, 0)) (by (with_reducible repeat (first | apply c' | apply f' | apply d')); exact BK277.out)) : gb324 ≠ gb277)); have n25_ := cg' ((by rw [hg]; exact Nat.ne_of_lt (blk_lt (g := gb292) (o := .cells #[.int .i64 t286, .int .i64 t287, .slice Ao63 t288.length co63] 25 (0, 0)) (by (with_reducible repeat (first | apply c' | apply f' | apply d')); exact BK292.out)) : gb292 ≠ gb324)); have n26_ := cg' ((by rw [hg]; exact Nat.ne_of_gt (blk_lt (g := gb292) (o := .cells #[.int .i64 t286, .int .i64 t287, .slice Ao63 t288.length co63] 25 (0, 0)) (by (with_reducible repeat (first | apply c' | apply f' | apply d')); exact BK292.out)) : gb324 ≠ gb292)); have n27_ := cg' ((by rw [hg]; exact Nat.ne_of_lt (blk_lt (g := gb302) (o := .cells #[.int .i64 t296, .int .i64 t297, .slice Ao73 t298.length co73] 24 (0, 0)) (by (with_reducible repeat (first | apply c' | apply f' | apply d')); exact BK302.out)) : gb302 ≠ gb324)); have n28_ := cg' ((by rw [hg]; exact Nat.ne_of_gt (blk_lt (g := gb302) (o := .cells #[.int .i64 t296, .int .i64 t297, .slice Ao73 t298.length co73] 24 (0, 0)) (by (with_reducible repeat (first | apply c' | apply f' | apply d')); exact BK302.out)) : gb324 ≠ gb302)); have n29_ := cg' ((by rw [hg]; exact Nat.ne_of_lt (blk_lt (g := gb310) (o := .cells #[.int .i64 t303, .int .i64 t304, .slice Ao82 t305.length co82] 25 (0, 0)) (by (with_reducible repeat (first | apply c' | apply f' | apply d')); exact BK310.out)) : gb310 ≠ gb324)); have n30_ := cg' ((by rw [hg]; exact Nat.ne_of_gt (blk_lt (g := gb310) (o := .cells #[.int .i64 t303, .int .i64 t304, .slice Ao82 t305.length co82] 25 (0, 0)) (by (with_reducible repeat (first | apply c' | apply f' | apply d')); exact BK310.out)) : gb324 ≠ gb310)); clear HO270; clear HO273; clear HO276; clear HO280; clear HO284; clear HO290; clear HO295; clear HO300; clear HO307; clear HO313; clear HO316; clear HO321; clear BK265; clear BK277; clear BK292; clear BK302; clear BK310; clear HB; have HO270 := n0_; have HO273 := n1_; have HO276 := n2_; have HO280 := n3_; have HO284 := n4_; have HO290 := n5_; have HO295 := n6_; have HO300 := n7_; have HO307 := n8_; have HO313 := n9_; have HO316 := n10_; have HO321 := n11_; have BK265 := n12_; have BK277 := n13_; have BK292 := n14_; have BK302 := n15_; have BK310 := n16_; have HB := n17_; have BK324 := n18_; have GW324 := n19_; have GE324 := n20_; have NB265_324 := n21_; have NB324_265 := n22_; have NB277_324 := n23_; have NB324_277 := n24_; have NB292_324 := n25_; have NB324_292 := n26_; have NB302_324 := n27_; have NB324_302 := n28_; have NB310_324 := n29_; have NB324_310 := n30_; clear n0_ n1_ n2_ n3_ n4_ n5_ n6_ n7_ n8_ n9_ n10_ n11_ n12_ n13_ n14_ n15_ n16_ n17_ n18_ n19_ n20_ n21_ n22_ n23_ n24_ n25_ n26_ n27_ n28_ n29_ n30_; clear hb hbox hg; have hnb90 := NB324_265.out; have hnc90 := NB265_324.out; have hnb91 := NB324_277.out; have hnc91 := NB277_324.out; have hnb92 := NB324_292.out; have hnc92 := NB292_324.out; have hnb93 := NB324_302.out; have hnc93 := NB302_324.out; have hnb94 := NB324_310.out; have hnc94 := NB310_324.out; have hcz95_0 : w89.cell? ⟨gb324, 0, none⟩ = some (.int .i64 0) := (b' BK324.out 0).trans rfl; have hcz95_1 : w89.cell? ⟨gb324, 1, none⟩ = some (.int .i64 0) := (b' BK324.out 1).trans rfl; have hcz95_2 : w89.cell? ⟨gb324, 2, none⟩ = some (.slice none 0 0) := (b' BK324.out 2).trans rfl; have hfz95_0 := ba' BK324.out 0; have hfz95_1 := ba' BK324.out 1; have hfz95_2 := ba' BK324.out 2; obtain ⟨Ao96, co96, eo96⟩ := Kd.R_slice HO321.out; subst eo96) | ((with_reducible refine gate_callee (f := 17) rfl ?_); refine goesL_ (some 73) rfl rfl Try.func17 (by kernel_rfl) rfl #[.slice A1 l1.length c1] rfl (by (try simp only [cb', cc', cd']); first | done | rfl | (simp only [ce', cf']; rfl)) ?_; (with_reducible refine (snap_Decode.calls k _ _ l1 t325 t326 t327 t330 _ ?side1 ?side2 A16.out).mono ?_); (case side1 => exact Kd.C_below HR1.out (by repeat (first | (with_reducible first | exact HB.out | apply s' | apply p' | apply r' | refine e' ?_ GE265.out | refine e' ?_ GE277.out | refine e' ?_ GE292.out | refine e' ?_ GE302.out | refine e' ?_ GE310.out | refine e' ?_ GE324.out) | exact HB.out))); (case side2 => exact HC1.out); rintro e w97 ⟨v328, rfl, ho0, hb⟩; refine ⟨_, rfl, ?_⟩; have n0_ := cg' (ac' (by (with_reducible repeat (first | apply h' | apply g' | apply j')); exact (z' (k' (p := ⟨gb324, 2, none⟩) (k' (p := ⟨gb324, 1, none⟩) (k' (p := ⟨gb324, 0, none⟩) (x' HO270.out BK324.out (by decide)) (fun _ hk => hk.2) (.int .i64 t317)) (fun _ hk => hk.2) (.int .i64 t318)) (fun _ hk => hk.2) (.slice Ao96 t319.length co96)) (fun _ h_ => h_.1))) (u' ho0) hb); have n1_ := cg' (ag' (by (with_reducible repeat (first | apply o' | apply n' | apply q')); exact (ab' (y' (p := ⟨gb324, 2, none⟩) (y' (p := ⟨gb324, 1, none⟩) (y' (p := ⟨gb324, 0, none⟩) (ab' HO273.out (fun k_ hk => (⟨hk, hk.2⟩ : _ ∧ k_ ≠ gb324))) (fun _ hk => hk.2) (.int .i64 t317)) (fun _ hk => hk.2) (.int .i64 t318)) (fun _ hk => hk.2) (.slice Ao96 t319.length co96)) (fun _ h_ => h_.1))) (u' ho0) hb); have n2_ := cg' (ag' (by (with_reducible repeat (first | apply o' | apply n' | apply q')); exact (ab' (y' (p := ⟨gb324, 2, none⟩) (y' (p := ⟨gb324, 1, none⟩) (y' (p := ⟨gb324, 0, none⟩) (ab' HO276.out (fun k_ hk => (⟨hk, hk.2⟩ : _ ∧ k_ ≠ gb324))) (fun _ hk => hk.2) (.int .i64 t317)) (fun _ hk => hk.2) (.int .i64 t318)) (fun _ hk => hk.2) (.slice Ao96 t319.length co96)) (fun _ h_ => h_.1))) (u' ho0) hb); have n3_ := cg' (ac' (by (with_reducible repeat (first | apply h' | apply g' | apply j')); exact (z' (k' (p := ⟨gb324, 2, none⟩) (k' (p := ⟨gb324, 1, none⟩) (k' (p := ⟨gb324, 0, none⟩) (x' HO280.out BK324.out (by decide)) (fun _ hk => hk.2) (.int .i64 t317)) (fun _ hk => hk.2) (.int .i64 t318)) (fun _ hk => hk.2) (.slice Ao96 t319.length co96)) (fun _ h_ => h_.1))) (u' ho0) hb); have n4_ := cg' (ac' (by (with_reducible repeat (first | apply h' | apply g' | apply j')); exact (z' (k' (p := ⟨gb324, 2, none⟩) (k' (p := ⟨gb324, 1, none⟩) (k' (p := ⟨gb324, 0, none⟩) (x' HO284.out BK324.out (by decide)) (fun _ hk => hk.2) (.int .i64 t317)) (fun _ hk => hk.2) (.int .i64 t318)) (fun _ hk => hk.2) (.slice Ao96 t319.length co96)) (fun _ h_ => h_.1))) (u' ho0) hb); have n5_ := cg' (ac' (by (with_reducible repeat (first | apply h' | apply g' | apply j')); exact (z' (k' (p := ⟨gb324, 2, none⟩) (k' (p := ⟨gb324, 1, none⟩) (k' (p := ⟨gb324, 0, none⟩) (x' HO290.out BK324.out (by decide)) (fun _ hk => hk.2) (.int .i64 t317)) (fun _ hk => hk.2) (.int .i64 t318)) (fun _ hk => hk.2) (.slice Ao96 t319.length co96)) (fun _ h_ => h_.1))) (u' ho0) hb); have n6_ := cg' (ag' (by (with_reducible repeat (first | apply o' | apply n' | apply q')); exact (ab' (y' (p := ⟨gb324, 2, none⟩) (y' (p := ⟨gb324, 1, none⟩) (y' (p := ⟨gb324, 0, none⟩) (ab' HO295.out (fun k_ hk => (⟨hk, hk.2⟩ : _ ∧ k_ ≠ gb324))) (fun _ hk => hk.2) (.int .i64 t317)) (fun _ hk => hk.2) (.int .i64 t318)) (fun _ hk => hk.2) (.slice Ao96 t319.length co96)) (fun _ h_ => h_.1))) (u' ho0) hb); have n7_ := cg' (ac' (by (with_reducible repeat (first | apply h' | apply g' | apply j')); exact (z' (k' (p := ⟨gb324, 2, none⟩) (k' (p := ⟨gb324, 1, none⟩) (k' (p := ⟨gb324, 0, none⟩) (x' HO300.out BK324.out (by decide)) (fun _ hk => hk.2) (.int .i64 t317)) (fun _ hk => hk.2) (.int .i64 t318)) (fun _ hk => hk.2) (.slice Ao96 t319.length co96)) (fun _ h_ => h_.1))) (u' ho0) hb); have n8_ := cg' (ac' (by (with_reducible repeat (first | apply h' | apply g' | apply j')); exact (z' (k' (p := ⟨gb324, 2, none⟩) (k' (p := ⟨gb324, 1, none⟩) (k' (p := ⟨gb324, 0, none⟩) (x' HO307.out BK324.out (by decide)) (fun _ hk => hk.2) (.int .i64 t317)) (fun _ hk => hk.2) (.int .i64 t318)) (fun _ hk => hk.2) (.slice Ao96 t319.length co96)) (fun _ h_ => h_.1))) (u' ho0) hb); have n9_ := cg' (ag' (by (with_reducible repeat (first | apply o' | apply n' | apply q')); exact (ab' (y' (p := ⟨gb324, 2, none⟩) (y' (p := ⟨gb324, 1, none⟩) (y' (p := ⟨gb324, 0, none⟩) (ab' HO313.out (fun k_ hk => (⟨hk, hk.2⟩ : _ ∧ k_ ≠ gb324))) (fun _ hk => hk.2) (.int .i64 t317)) (fun _ hk => hk.2) (.int .i64 t318)) (fun _ hk => hk.2) (.slice Ao96 t319.length co96)) (fun _ h_ => h_.1))) (u' ho0) hb); have n10_ := cg' (ag' (by (with_reducible repeat (first | apply o' | apply n' | apply q')); exact (ab' (y' (p := ⟨gb324, 2, none⟩) (y' (p := ⟨gb324, 1, none⟩) (y' (p := ⟨gb324, 0, none⟩) (ab' HO316.out (fun k_ hk => (⟨hk, hk.2⟩ : _ ∧ k_ ≠ gb324))) (fun _ hk => hk.2) (.int .i64 t317)) (fun _ hk => hk.2) (.int .i64 t318)) (fun _ hk => hk.2) (.slice Ao96 t319.length co96)) (fun _ h_ => h_.1))) (u' ho0) hb); have n11_ := cg' (ac' (by (with_reducible repeat (first | apply h' | apply g' | apply j')); exact (z' (k' (p := ⟨gb324, 2, none⟩) (k' (p := ⟨gb324, 1, none⟩) (k' (p := ⟨gb324, 0, none⟩) (x' HO321.out BK324.out (by decide)) (fun _ hk => hk.2) (.int .i64 t317)) (fun _ hk => hk.2) (.int .i64 t318)) (fun _ hk => hk.2) (.slice Ao96 t319.length co96)) (fun _ h_ => h_.1))) (u' ho0) hb); have n12_ := cg' (Kd.R_lower (ae' (ae' (ae' (ae' (ae' (ae' (ae' ho0 (ad' (by (with_reducible repeat (first | apply h' | apply g' | apply j')); exact (z' (k' (p := ⟨gb324, 2, none⟩) (k' (p := ⟨gb324, 1, none⟩) (k' (p := ⟨gb324, 0, none⟩) (x' HO270.out BK324.out (by decide)) (fun _ hk => hk.2) (.int .i64 t317)) (fun _ hk => hk.2) (.int .i64 t318)) (fun _ hk => hk.2) (.slice Ao96 t319.length co96)) (fun _ h_ => h_.1))))) (ad' (by (with_reducible repeat (first | apply h' | apply g' | apply j')); exact (z' (k' (p := ⟨gb324, 2, none⟩) (k' (p := ⟨gb324, 1, none⟩) (k' (p := ⟨gb324, 0, none⟩) (x' HO280.out BK324.out (by decide)) (fun _ hk => hk.2) (.int .i64 t317)) (fun _ hk => hk.2) (.int .i64 t318)) (fun _ hk => hk.2) (.slice Ao96 t319.length co96)) (fun _ h_ => h_.1))))) (ad' (by (with_reducible repeat (first | apply h' | apply g' | apply j')); exact (z' (k' (p := ⟨gb324, 2, none⟩) (k' (p := ⟨gb324, 1, none⟩) (k' (p := ⟨gb324, 0, none⟩) (x' HO284.out BK324.out (by decide)) (fun _ hk => hk.2) (.int .i64 t317)) (fun _ hk => hk.2) (.int .i64 t318)) (fun _ hk => hk.2) (.slice Ao96 t319.length co96)) (fun _ h_ => h_.1))))) (ad' (by (with_reducible repeat (first | apply h' | apply g' | apply j')); exact (z' (k' (p := ⟨gb324, 2, none⟩) (k' (p := ⟨gb324, 1, none⟩) (k' (p := ⟨gb324, 0, none⟩) (x' HO290.out BK324.out (by decide)) (fun _ hk => hk.2) (.int .i64 t317)) (fun _ hk => hk.2) (.int .i64 t318)) (fun _ hk => hk.2) (.slice Ao96 t319.length co96)) (fun _ h_ => h_.1))))) (ad' (by (with_reducible repeat (first | apply h' | apply g' | apply j')); exact (z' (k' (p := ⟨gb324, 2, none⟩) (k' (p := ⟨gb324, 1, none⟩) (k' (p := ⟨gb324, 0, none⟩) (x' HO300.out BK324.out (by decide)) (fun _ hk => hk.2) (.int .i64 t317)) (fun _ hk => hk.2) (.int .i64 t318)) (fun _ hk => hk.2) (.slice Ao96 t319.length co96)) (fun _ h_ => h_.1))))) (ad' (by (with_reducible repeat (first | apply h' | apply g' | apply j')); exact (z' (k' (p := ⟨gb324, 2, none⟩) (k' (p := ⟨gb324, 1, none⟩) (k' (p := ⟨gb324, 0, none⟩) (x' HO307.out BK324.out (by decide)) (fun _ hk => hk.2) (.int .i64 t317)) (fun _ hk => hk.2) (.int .i64 t318)) (fun _ hk => hk.2) (.slice Ao96 t319.length co96)) (fun _ h_ => h_.1))))) (ad' (by (with_reducible repeat (first | apply h' | apply g' | apply j')); exact (z' (k' (p := ⟨gb324, 2, none⟩) (k' (p := ⟨gb324, 1, none⟩) (k' (p := ⟨gb324, 0, none⟩) (x' HO321.out BK324.out (by decide)) (fun _ hk => hk.2) (.int .i64 t317)) (fun _ hk => hk.2) (.int .i64 t318)) (fun _ hk => hk.2) (.slice Ao96 t319.length co96)) (fun _ h_ => h_.1))))) (af' (by repeat (first | (with_reducible first | exact HB.out | apply s' | apply p' | apply r' | refine e' ?_ GE265.out | refine e' ?_ GE277.out | refine e' ?_ GE292.out | refine e' ?_ GE302.out | refine e' ?_ GE310.out | refine e' ?_ GE324.out) | exact HB.out)))); have n13_ := cg' (m' (g := gb265) (o := .cells #[.int .i64 a0_0, .int .i64 a0_1, .slice A0_2 l0_2.length c0_2] 24 (0, 0)) (by (with_reducible repeat (first | apply c' | apply f' | apply d')); refine aa' ?_ NB265_324.out _; (with_reducible repeat (first | apply c' | apply f' | apply d')); refine aa' ?_ NB265_324.out _; (with_reducible repeat (first | apply c' | apply f' | apply d')); refine aa' ?_ NB265_324.out _; (with_reducible repeat (first | apply c' | apply f' | apply d')); exact BK265.out) hb); have n14_ := cg' (m' (g := gb277) (o := .cells #[.int .i64 t266, .int .i64 t267, .slice Ao53 t268.length co53] 25 (0, 0)) (by (with_reducible repeat (first | apply c' | apply f' | apply d')); refine aa' ?_ NB277_324.out _; (with_reducible repeat (first | apply c' | apply f' | apply d')); refine aa' ?_ NB277_324.out _; (with_reducible repeat (first | apply c' | apply f' | apply d')); refine aa' ?_ NB277_324.out _; (with_reducible repeat (first | apply c' | apply f' | apply d')); exact BK277.out) hb); have n15_ := cg' (m' (g := gb292) (o := .cells #[.int .i64 t286, .int .i64 t287, .slice Ao63 t288.length co63] 25 (0, 0)) (by (with_reducible repeat (first | apply c' | apply f' | apply d')); refine aa' ?_ NB292_324.out _; (with_reducible repeat (first | apply c' | apply f' | apply d')); refine aa' ?_ NB292_324.out _; (with_reducible repeat (first | apply c' | apply f' | apply d')); refine aa' ?_ NB292_324.out _; (with_reducible repeat (first | apply c' | apply f' | apply d')); exact BK292.out) hb); have n16_ := cg' (m' (g := gb302) (o := .cells #[.int .i64 t296, .int .i64 t297, .slice Ao73 t298.length co73] 24 (0, 0)) (by (with_reducible repeat (first | apply c' | apply f' | apply d')); refine aa' ?_ NB302_324.out _; (with_reducible repeat (first | apply c' | apply f' | apply d')); refine aa' ?_ NB302_324.out _; (with_reducible repeat (first | apply c' | apply f' | apply d')); refine aa' ?_ NB302_324.out _; (with_reducible repeat (first | apply c' | apply f' | apply d')); exact BK302.out) hb); have n17_ := cg' (m' (g := gb310) (o := .cells #[.int .i64 t303, .int .i64 t304, .slice Ao82 t305.length co82] 25 (0, 0)) (by (with_reducible repeat (first | apply c' | apply f' | apply d')); refine aa' ?_ NB310_324.out _; (with_reducible repeat (first | apply c' | apply f' | apply d')); refine aa' ?_ NB310_324.out _; (with_reducible repeat (first | apply c' | apply f' | apply d')); refine aa' ?_ NB310_324.out _; (with_reducible repeat (first | apply c' | apply f' | apply d')); exact BK310.out) hb); have n18_ := cg' (m' (g := gb324) (o := .cells #[.int .i64 t317, .int .i64 t318, .slice Ao96 t319.length co96] 24 (0, 0)) (by (with_reducible repeat (first | apply c' | apply f' | apply d')); refine blk_put (cs := #[.int .i64 t317, .int .i64 t318, .slice none 0 0]) ?_ 2 _ rfl; (with_reducible repeat (first | apply c' | apply f' | apply d')); refine blk_put (cs := #[.int .i64 t317, .int .i64 0, .slice none 0 0]) ?_ 1 _ rfl; (with_reducible repeat (first | apply c' | apply f' | apply d')); refine blk_put (cs := #[.int .i64 0, .int .i64 0, .slice none 0 0]) ?_ 0 _ rfl; (with_reducible repeat (first | apply c' | apply f' | apply d')); exact BK324.out) hb); have n19_ := cg' (ah' (by repeat (first | (with_reducible first | exact HB.out | apply s' | apply p' | apply r' | refine e' ?_ GE265.out | refine e' ?_ GE277.out | refine e' ?_ GE292.out | refine e' ?_ GE302.out | refine e' ?_ GE310.out | refine e' ?_ GE324.out) | exact HB.out)) hb); clear HO270; clear HO273; clear HO276; clear HO280; clear HO284; clear HO290; clear HO295; clear HO300; clear HO307; clear HO313; clear HO316; clear HO321; clear BK265; clear BK277; clear BK292; clear BK302; clear BK310; clear BK324; clear HB; have HO270 := n0_; have HO273 := n1_; have HO276 := n2_; have HO280 := n3_; have HO284 := n4_; have HO290 := n5_; have HO295 := n6_; have HO300 := n7_; have HO307 := n8_; have HO313 := n9_; have HO316 := n10_; have HO321 := n11_; have HO329 := n12_; have BK265 := n13_; have BK277 := n14_; have BK292 := n15_; have BK302 := n16_; have BK310 := n17_; have BK324 := n18_; have HB := n19_; clear n0_ n1_ n2_ n3_ n4_ n5_ n6_ n7_ n8_ n9_ n10_ n11_ n12_ n13_ n14_ n15_ n16_ n17_ n18_ n19_; (try clear hb); (try clear hb2); (try clear hk); (try clear hi); (try clear ho0)) | ((with_reducible refine gate_dst (N := 24) rfl ?_); refine box_event ?hg (N := 24) ?hd (cs := #[.int .i64 0, .int .i64 0, .slice none 0 0]) (t := 25) ?hr ?_; (case hd => rfl); (case hg => rfl); (case hr => first | (go_simp; done) | (go_simp; rfl)); intro gb331 hg w98 hbox hb; have n0_ := cg' (l' (by (with_reducible repeat (first | apply h' | apply g' | apply j')); exact HO270.out) hb); have n1_ := cg' (v' (Kd.V_elderB (by (with_reducible repeat (first | apply o' | apply n' | apply q')); exact HO273.out) gb331 (Nat.le_of_eq hg.symm)) hb); have n2_ := cg' (v' (Kd.V_elderB (by (with_reducible repeat (first | apply o' | apply n' | apply q')); exact HO276.out) gb331 (Nat.le_of_eq hg.symm)) hb); have n3_ := cg' (l' (by (with_reducible repeat (first | apply h' | apply g' | apply j')); exact HO280.out) hb); have n4_ := cg' (l' (by (with_reducible repeat (first | apply h' | apply g' | apply j')); exact HO284.out) hb); have n5_ := cg' (l' (by (with_reducible repeat (first | apply h' | apply g' | apply j')); exact HO290.out) hb); have n6_ := cg' (v' (Kd.V_elderB (by (with_reducible repeat (first | apply o' | apply n' | apply q')); exact HO295.out) gb331 (Nat.le_of_eq hg.symm)) hb); have n7_ := cg' (l' (by (with_reducible repeat (first | apply h' | apply g' | apply j')); exact HO300.out) hb); have n8_ := cg' (l' (by (with_reducible repeat (first | apply h' | apply g' | apply j')); exact HO307.out) hb); have n9_ := cg' (v' (Kd.V_elderB (by (with_reducible repeat (first | apply o' | apply n' | apply q')); exact HO313.out) gb331 (Nat.le_of_eq hg.symm)) hb); have n10_ := cg' (v' (Kd.V_elderB (by (with_reducible repeat (first | apply o' | apply n' | apply q')); exact HO316.out) gb331 (Nat.le_of_eq hg.symm)) hb); have n11_ := cg' (l' (by (with_reducible repeat (first | apply h' | apply g' | apply j')); exact HO321.out) hb); have n12_ := cg' (l' (by (with_reducible repeat (first | apply h' | apply g' | apply j')); exact HO329.out) hb); have n13_ := cg' (m' (g := gb265) (o := .cells #[.int .i64 a0_0, .int .i64 a0_1, .slice A0_2 l0_2.length c0_2] 24 (0, 0)) (by (with_reducible repeat (first | apply c' | apply f' | apply d')); exact BK265.out) hb); have n14_ := cg' (m' (g := gb277) (o := .cells #[.int .i64 t266, .int .i64 t267, .slice Ao53 t268.length co53] 25 (0, 0)) (by (with_reducible repeat (first | apply c' | apply f' | apply d')); exact BK277.out) hb); have n15_ := cg' (m' (g := gb292) (o := .cells #[.int .i64 t286, .int .i64 t287, .slice Ao63 t288.length co63] 25 (0, 0)) (by (with_reducible repeat (first | apply c' | apply f' | apply d')); exact BK292.out) hb); have n16_ := cg' (m' (g := gb302) (o := .cells #[.int .i64 t296, .int .i64 t297, .slice Ao73 t298.length co73] 24 (0, 0)) (by (with_reducible repeat (first | apply c' | apply f' | apply d')); exact BK302.out) hb); have n17_ := cg' (m' (g := gb310) (o := .cells #[.int .i64 t303, .int .i64 t304, .slice Ao82 t305.length co82] 25 (0, 0)) (by (with_reducible repeat (first | apply c' | apply f' | apply d')); exact BK310.out) hb); have n18_ := cg' (m' (g := gb324) (o := .cells #[.int .i64 t317, .int .i64 t318, .slice Ao96 t319.length co96] 24 (0, 0)) (by (with_reducible repeat (first | apply c' | apply f' | apply d')); exact BK324.out) hb); have n19_ := cg' (ah' (by repeat (first | (with_reducible first | exact HB.out | apply s' | apply p' | apply r' | refine e' ?_ GE265.out | refine e' ?_ GE277.out | refine e' ?_ GE292.out | refine e' ?_ GE302.out | refine e' ?_ GE310.out | refine e' ?_ GE324.out) | exact HB.out)) hb); have n20_ := cg' (hbox); have n21_ := cg' ((by rw [hg]; exact (af' (by repeat (first | (with_reducible first | exact HB.out | apply s' | apply p' | apply r' | refine e' ?_ GE265.out | refine e' ?_ GE277.out | refine e' ?_ GE292.out | refine e' ?_ GE302.out | refine e' ?_ GE310.out | refine e' ?_ GE324.out) | exact HB.out))) : w.heap.size ≤ gb331)); have n22_ := cg' ((by rw [hg]; exact (af' (by repeat (first | (with_reducible first | exact HB.out | apply s' | apply p' | apply r' | refine e' ?_ GE265.out | refine e' ?_ GE277.out | refine e' ?_ GE292.out | refine e' ?_ GE302.out | refine e' ?_ GE310.out | refine e' ?_ GE324.out) | exact HB.out))) : w.heap.size ≤ gb331)); have n23_ := cg' ((by rw [hg]; exact Nat.ne_of_lt (blk_lt (g := gb265) (o := .cells #[.int .i64 a0_0, .int .i64 a0_1, .slice A0_2 l0_2.length c0_2] 24 (0, 0)) (by (with_reducible repeat (first | apply c' | apply f' | apply d')); exact BK265.out)) : gb265 ≠ gb331)); have n24_ := cg' ((by rw [hg]; exact Nat.ne_of_gt (blk_lt (g := gb265) (o := .cells #[.int .i64 a0_0, .int .i64 a0_1, .slice A0_2 l0_2.length c0_2] 24 (0, 0)) (by (with_reducible repeat (first | apply c' | apply f' | apply d')); exact BK265.out)) : gb331 ≠ gb265)); have n25_ := cg' ((by rw [hg]; exact Nat.ne_of_lt (blk_lt (g := gb277) (o := .cells #[.int .i64 t266, .int .i64 t267, .slice Ao53 t268.length co53] 25 (0, 0)) (by (with_reducible repeat (first | apply c' | apply f' | apply d')); exact BK277.out)) : gb277 ≠ gb331)); have n26_ := cg' ((by rw [hg]; exact Nat.ne_of_gt (blk_lt (g := gb277) (o := .cells #[.int .i64 t266, .int .i64 t267, .slice Ao53 t268.length co53] 25 (0, 0)) (by (with_reducible repeat (first | apply c' | apply f' | apply d')); exact BK277.out)) : gb331 ≠ gb277)); have n27_ := cg' ((by rw [hg]; exact Nat.ne_of_lt (blk_lt (g := gb292) (o := .cells #[.int .i64 t286, .int .i64 t287, .slice Ao63 t288.length co63] 25 (0, 0)) (by (with_reducible repeat (first | apply c' | apply f' | apply d')); exact BK292.out)) : gb292 ≠ gb331)); have n28_ := cg' ((by rw [hg]; exact Nat.ne_of_gt (blk_lt (g := gb292) (o := .cells #[.int .i64 t286, .int .i64 t287, .slice Ao63 t288.length co63] 25 (0, 0)) (by (with_reducible repeat (first | apply c' | apply f' | apply d')); exact BK292.out)) : gb331 ≠ gb292)); have n29_ := cg' ((by rw [hg]; exact Nat.ne_of_lt (blk_lt (g := gb302) (o := .cells #[.int .i64 t296, .int .i64 t297, .slice Ao73 t298.length co73] 24 (0, 0)) (by (with_reducible repeat (first | apply c' | apply f' | apply d')); exact BK302.out)) : gb302 ≠ gb331)); have n30_ := cg' ((by rw [hg]; exact Nat.ne_of_gt (blk_lt (g := gb302) (o := .cells #[.int .i64 t296, .int .i64 t297, .slice Ao73 t298.length co73] 24 (0, 0)) (by (with_reducible repeat (first | apply c' | apply f' | apply d')); exact BK302.out)) : gb331 ≠ gb302)); have n31_ := cg' ((by rw [hg]; exact Nat.ne_of_lt (blk_lt (g := gb310) (o := .cells #[.int .i64 t303, .int .i64 t304, .slice Ao82 t305.length co82] 25 (0, 0)) (by (with_reducible repeat (first | apply c' | apply f' | apply d')); exact BK310.out)) : gb310 ≠ gb331)); have n32_ := cg' ((by rw [hg]; exact Nat.ne_of_gt (blk_lt (g := gb310) (o := .cells #[.int .i64 t303, .int .i64 t304, .slice Ao82 t305.length co82] 25 (0, 0)) (by (with_reducible repeat (first | apply c' | apply f' | apply d')); exact BK310.out)) : gb331 ≠ gb310)); have n33_ := cg' ((by rw [hg]; exact Nat.ne_of_lt (blk_lt (g := gb324) (o := .cells #[.int .i64 t317, .int .i64 t318, .slice Ao96 t319.length co96] 24 (0, 0)) (by (with_reducible repeat (first | apply c' | apply f' | apply d')); exact BK324.out)) : gb324 ≠ gb331)); have n34_ := cg' ((by rw [hg]; exact Nat.ne_of_gt (blk_lt (g := gb324) (o := .cells #[.int .i64 t317, .int .i64 t318, .slice Ao96 t319.length co96] 24 (0, 0)) (by (with_reducible repeat (first | apply c' | apply f' | apply d')); exact BK324.out)) : gb331 ≠ gb324)); clear HO270; clear HO273; clear HO276; clear HO280; clear HO284; clear HO290; clear HO295; clear HO300; clear HO307; clear HO313; clear HO316; clear HO321; clear HO329; clear BK265; clear BK277; clear BK292; clear BK302; clear BK310; clear BK324; clear HB; have HO270 := n0_; have HO273 := n1_; have HO276 := n2_; have HO280 := n3_; have HO284 := n4_; have HO290 := n5_; have HO295 := n6_; have HO300 := n7_; have HO307 := n8_; have HO313 := n9_; have HO316 := n10_; have HO321 := n11_; have HO329 := n12_; have BK265 := n13_; have BK277 := n14_; have BK292 := n15_; have BK302 := n16_; have BK310 := n17_; have BK324 := n18_; have HB := n19_; have BK331 := n20_; have GW331 := n21_; have GE331 := n22_; have NB265_331 := n23_; have NB331_265 := n24_; have NB277_331 := n25_; have NB331_277 := n26_; have NB292_331 := n27_; have NB331_292 := n28_; have NB302_331 := n29_; have NB331_302 := n30_; have NB310_331 := n31_; have NB331_310 := n32_; have NB324_331 := n33_; have NB331_324 := n34_; clear n0_ n1_ n2_ n3_ n4_ n5_ n6_ n7_ n8_ n9_ n10_ n11_ n12_ n13_ n14_ n15_ n16_ n17_ n18_ n19_ n20_ n21_ n22_ n23_ n24_ n25_ n26_ n27_ n28_ n29_ n30_ n31_ n32_ n33_ n34_; clear hb hbox hg; have hnb99 := NB331_265.out; have hnc99 := NB265_331.out; have hnb100 := NB331_277.out; have hnc100 := NB277_331.out; have hnb101 := NB331_292.out; have hnc101 := NB292_331.out; have hnb102 := NB331_302.out; have hnc102 := NB302_331.out; have hnb103 := NB331_310.out; have hnc103 := NB310_331.out; have hnb104 := NB331_324.out; have hnc104 := NB324_331.out; have hcz105_0 : w98.cell? ⟨gb331, 0, none⟩ = some (.int .i64 0) := (b' BK331.out 0).trans rfl; have hcz105_1 : w98.cell? ⟨gb331, 1, none⟩ = some (.int .i64 0) := (b' BK331.out 1).trans rfl; have hcz105_2 : w98.cell? ⟨gb331, 2, none⟩ = some (.slice none 0 0) := (b' BK331.out 2).trans rfl; have hfz105_0 := ba' BK331.out 0; have hfz105_1 := ba' BK331.out 1; have hfz105_2 := ba' BK331.out 2; obtain ⟨Ao106, co106, eo106⟩ := Kd.R_slice HO329.out; subst eo106) | ((with_reducible refine gate_callee (f := 18) rfl ?_); refine goesL_ (some 78) rfl rfl Try.func18 (by kernel_rfl) rfl #[.slice A1 l1.length c1] rfl (by (try simp only [cb', cc', cd']); first | done | rfl | (simp only [ce', cf']; rfl)) ?_; (with_reducible refine (fanlightref07_Decode.calls k _ _ l1 t332 t333 t334 t337 _ ?side1 ?side2 A17.out).mono ?_); (case side1 => exact Kd.C_below HR1.out (by repeat (first | (with_reducible first | exact HB.out | apply s' | apply p' | apply r' | refine e' ?_ GE265.out | refine e' ?_ GE277.out | refine e' ?_ GE292.out | refine e' ?_ GE302.out | refine e' ?_ GE310.out | refine e' ?_ GE324.out | refine e' ?_ GE331.out) | exact HB.out))); (case side2 => exact HC1.out); rintro e w107 ⟨v335, rfl, ho0, hb⟩; refine ⟨_, rfl, ?_⟩; have n0_ := cg' (ac' (by (with_reducible repeat (first | apply h' | apply g' | apply j')); exact (z' (k' (p := ⟨gb331, 2, none⟩) (k' (p := ⟨gb331, 1, none⟩) (k' (p := ⟨gb331, 0, none⟩) (x' HO270.out BK331.out (by decide)) (fun _ hk => hk.2) (.int .i64 t325)) (fun _ hk => hk.2) (.int .i64 t326)) (fun _ hk => hk.2) (.slice Ao106 t327.length co106)) (fun _ h_ => h_.1))) (u' ho0) hb); have n1_ := cg' (ag' (by (with_reducible repeat (first | apply o' | apply n' | apply q')); exact (ab' (y' (p := ⟨gb331, 2, none⟩) (y' (p := ⟨gb331, 1, none⟩) (y' (p := ⟨gb331, 0, none⟩) (ab' HO273.out (fun k_ hk => (⟨hk, hk.2⟩ : _ ∧ k_ ≠ gb331))) (fun _ hk => hk.2) (.int .i64 t325)) (fun _ hk => hk.2) (.int .i64 t326)) (fun _ hk => hk.2) (.slice Ao106 t327.length co106)) (fun _ h_ => h_.1))) (u' ho0) hb); have n2_ := cg' (ag' (by (with_reducible repeat (first | apply o' | apply n' | apply q')); exact (ab' (y' (p := ⟨gb331, 2, none⟩) (y' (p := ⟨gb331, 1, none⟩) (y' (p := ⟨gb331, 0, none⟩) (ab' HO276.out (fun k_ hk => (⟨hk, hk.2⟩ : _ ∧ k_ ≠ gb331))) (fun _ hk => hk.2) (.int .i64 t325)) (fun _ hk => hk.2) (.int .i64 t326)) (fun _ hk => hk.2) (.slice Ao106 t327.length co106)) (fun _ h_ => h_.1))) (u' ho0) hb); have n3_ := cg' (ac' (by (with_reducible repeat (first | apply h' | apply g' | apply j')); exact (z' (k' (p := ⟨gb331, 2, none⟩) (k' (p := ⟨gb331, 1, none⟩) (k' (p := ⟨gb331, 0, none⟩) (x' HO280.out BK331.out (by decide)) (fun _ hk => hk.2) (.int .i64 t325)) (fun _ hk => hk.2) (.int .i64 t326)) (fun _ hk => hk.2) (.slice Ao106 t327.length co106)) (fun _ h_ => h_.1))) (u' ho0) hb); have n4_ := cg' (ac' (by (with_reducible repeat (first | apply h' | apply g' | apply j')); exact (z' (k' (p := ⟨gb331, 2, none⟩) (k' (p := ⟨gb331, 1, none⟩) (k' (p := ⟨gb331, 0, none⟩) (x' HO284.out BK331.out (by decide)) (fun _ hk => hk.2) (.int .i64 t325)) (fun _ hk => hk.2) (.int .i64 t326)) (fun _ hk => hk.2) (.slice Ao106 t327.length co106)) (fun _ h_ => h_.1))) (u' ho0) hb); have n5_ := cg' (ac' (by (with_reducible repeat (first | apply h' | apply g' | apply j')); exact (z' (k' (p := ⟨gb331, 2, none⟩) (k' (p := ⟨gb331, 1, none⟩) (k' (p := ⟨gb331, 0, none⟩) (x' HO290.out BK331.out (by decide)) (fun _ hk => hk.2) (.int .i64 t325)) (fun _ hk => hk.2) (.int .i64 t326)) (fun _ hk => hk.2) (.slice Ao106 t327.length co106)) (fun _ h_ => h_.1))) (u' ho0) hb); have n6_ := cg' (ag' (by (with_reducible repeat (first | apply o' | apply n' | apply q')); exact (ab' (y' (p := ⟨gb331, 2, none⟩) (y' (p := ⟨gb331, 1, none⟩) (y' (p := ⟨gb331, 0, none⟩) (ab' HO295.out (fun k_ hk => (⟨hk, hk.2⟩ : _ ∧ k_ ≠ gb331))) (fun _ hk => hk.2) (.int .i64 t325)) (fun _ hk => hk.2) (.int .i64 t326)) (fun _ hk => hk.2) (.slice Ao106 t327.length co106)) (fun _ h_ => h_.1))) (u' ho0) hb); have n7_ := cg' (ac' (by (with_reducible repeat (first | apply h' | apply g' | apply j')); exact (z' (k' (p := ⟨gb331, 2, none⟩) (k' (p := ⟨gb331, 1, none⟩) (k' (p := ⟨gb331, 0, none⟩) (x' HO300.out BK331.out (by decide)) (fun _ hk => hk.2) (.int .i64 t325)) (fun _ hk => hk.2) (.int .i64 t326)) (fun _ hk => hk.2) (.slice Ao106 t327.length co106)) (fun _ h_ => h_.1))) (u' ho0) hb); have n8_ := cg' (ac' (by (with_reducible repeat (first | apply h' | apply g' | apply j')); exact (z' (k' (p := ⟨gb331, 2, none⟩) (k' (p := ⟨gb331, 1, none⟩) (k' (p := ⟨gb331, 0, none⟩) (x' HO307.out BK331.out (by decide)) (fun _ hk => hk.2) (.int .i64 t325)) (fun _ hk => hk.2) (.int .i64 t326)) (fun _ hk => hk.2) (.slice Ao106 t327.length co106)) (fun _ h_ => h_.1))) (u' ho0) hb); have n9_ := cg' (ag' (by (with_reducible repeat (first | apply o' | apply n' | apply q')); exact (ab' (y' (p := ⟨gb331, 2, none⟩) (y' (p := ⟨gb331, 1, none⟩) (y' (p := ⟨gb331, 0, none⟩) (ab' HO313.out (fun k_ hk => (⟨hk, hk.2⟩ : _ ∧ k_ ≠ gb331))) (fun _ hk => hk.2) (.int .i64 t325)) (fun _ hk => hk.2) (.int .i64 t326)) (fun _ hk => hk.2) (.slice Ao106 t327.length co106)) (fun _ h_ => h_.1))) (u' ho0) hb); have n10_ := cg' (ag' (by (with_reducible repeat (first | apply o' | apply n' | apply q')); exact (ab' (y' (p := ⟨gb331, 2, none⟩) (y' (p := ⟨gb331, 1, none⟩) (y' (p := ⟨gb331, 0, none⟩) (ab' HO316.out (fun k_ hk => (⟨hk, hk.2⟩ : _ ∧ k_ ≠ gb331))) (fun _ hk => hk.2) (.int .i64 t325)) (fun _ hk => hk.2) (.int .i64 t326)) (fun _ hk => hk.2) (.slice Ao106 t327.length co106)) (fun _ h_ => h_.1))) (u' ho0) hb); have n11_ := cg' (ac' (by (with_reducible repeat (first | apply h' | apply g' | apply j')); exact (z' (k' (p := ⟨gb331, 2, none⟩) (k' (p := ⟨gb331, 1, none⟩) (k' (p := ⟨gb331, 0, none⟩) (x' HO321.out BK331.out (by decide)) (fun _ hk => hk.2) (.int .i64 t325)) (fun _ hk => hk.2) (.int .i64 t326)) (fun _ hk => hk.2) (.slice Ao106 t327.length co106)) (fun _ h_ => h_.1))) (u' ho0) hb); have n12_ := cg' (ac' (by (with_reducible repeat (first | apply h' | apply g' | apply j')); exact (z' (k' (p := ⟨gb331, 2, none⟩) (k' (p := ⟨gb331, 1, none⟩) (k' (p := ⟨gb331, 0, none⟩) (x' HO329.out BK331.out (by decide)) (fun _ hk => hk.2) (.int .i64 t325)) (fun _ hk => hk.2) (.int .i64 t326)) (fun _ hk => hk.2) (.slice Ao106 t327.length co106)) (fun _ h_ => h_.1))) (u' ho0) hb); have n13_ := cg' (Kd.R_lower (ae' (ae' (ae' (ae' (ae' (ae' (ae' (ae' ho0 (ad' (by (with_reducible repeat (first | apply h' | apply g' | apply j')); exact (z' (k' (p := ⟨gb331, 2, none⟩) (k' (p := ⟨gb331, 1, none⟩) (k' (p := ⟨gb331, 0, none⟩) (x' HO270.out BK331.out (by decide)) (fun _ hk => hk.2) (.int .i64 t325)) (fun _ hk => hk.2) (.int .i64 t326)) (fun _ hk => hk.2) (.slice Ao106 t327.length co106)) (fun _ h_ => h_.1))))) (ad' (by (with_reducible repeat (first | apply h' | apply g' | apply j')); exact (z' (k' (p := ⟨gb331, 2, none⟩) (k' (p := ⟨gb331, 1, none⟩) (k' (p := ⟨gb331, 0, none⟩) (x' HO280.out BK331.out (by decide)) (fun _ hk => hk.2) (.int .i64 t325)) (fun _ hk => hk.2) (.int .i64 t326)) (fun _ hk => hk.2) (.slice Ao106 t327.length co106)) (fun _ h_ => h_.1))))) (ad' (by (with_reducible repeat (first | apply h' | apply g' | apply j')); exact (z' (k' (p := ⟨gb331, 2, none⟩) (k' (p := ⟨gb331, 1, none⟩) (k' (p := ⟨gb331, 0, none⟩) (x' HO284.out BK331.out (by decide)) (fun _ hk => hk.2) (.int .i64 t325)) (fun _ hk => hk.2) (.int .i64 t326)) (fun _ hk => hk.2) (.slice Ao106 t327.length co106)) (fun _ h_ => h_.1))))) (ad' (by (with_reducible repeat (first | apply h' | apply g' | apply j')); exact (z' (k' (p := ⟨gb331, 2, none⟩) (k' (p := ⟨gb331, 1, none⟩) (k' (p := ⟨gb331, 0, none⟩) (x' HO290.out BK331.out (by decide)) (fun _ hk => hk.2) (.int .i64 t325)) (fun _ hk => hk.2) (.int .i64 t326)) (fun _ hk => hk.2) (.slice Ao106 t327.length co106)) (fun _ h_ => h_.1))))) (ad' (by (with_reducible repeat (first | apply h' | apply g' | apply j')); exact (z' (k' (p := ⟨gb331, 2, none⟩) (k' (p := ⟨gb331, 1, none⟩) (k' (p := ⟨gb331, 0, none⟩) (x' HO300.out BK331.out (by decide)) (fun _ hk => hk.2) (.int .i64 t325)) (fun _ hk => hk.2) (.int .i64 t326)) (fun _ hk => hk.2) (.slice Ao106 t327.length co106)) (fun _ h_ => h_.1))))) (ad' (by (with_reducible repeat (first | apply h' | apply g' | apply j')); exact (z' (k' (p := ⟨gb331, 2, none⟩) (k' (p := ⟨gb331, 1, none⟩) (k' (p := ⟨gb331, 0, none⟩) (x' HO307.out BK331.out (by decide)) (fun _ hk => hk.2) (.int .i64 t325)) (fun _ hk => hk.2) (.int .i64 t326)) (fun _ hk => hk.2) (.slice Ao106 t327.length co106)) (fun _ h_ => h_.1))))) (ad' (by (with_reducible repeat (first | apply h' | apply g' | apply j')); exact (z' (k' (p := ⟨gb331, 2, none⟩) (k' (p := ⟨gb331, 1, none⟩) (k' (p := ⟨gb331, 0, none⟩) (x' HO321.out BK331.out (by decide)) (fun _ hk => hk.2) (.int .i64 t325)) (fun _ hk => hk.2) (.int .i64 t326)) (fun _ hk => hk.2) (.slice Ao106 t327.length co106)) (fun _ h_ => h_.1))))) (ad' (by (with_reducible repeat (first | apply h' | apply g' | apply j')); exact (z' (k' (p := ⟨gb331, 2, none⟩) (k' (p := ⟨gb331, 1, none⟩) (k' (p := ⟨gb331, 0, none⟩) (x' HO329.out BK331.out (by decide)) (fun _ hk => hk.2) (.int .i64 t325)) (fun _ hk => hk.2) (.int .i64 t326)) (fun _ hk => hk.2) (.slice Ao106 t327.length co106)) (fun _ h_ => h_.1))))) (af' (by repeat (first | (with_reducible first | exact HB.out | apply s' | apply p' | apply r' | refine e' ?_ GE265.out | refine e' ?_ GE277.out | refine e' ?_ GE292.out | refine e' ?_ GE302.out | refine e' ?_ GE310.out | refine e' ?_ GE324.out | refine e' ?_ GE331.out) | exact HB.out)))); have n14_ := cg' (m' (g := gb265) (o := .cells #[.int .i64 a0_0, .int .i64 a0_1, .slice A0_2 l0_2.length c0_2] 24 (0, 0)) (by (with_reducible repeat (first | apply c' | apply f' | apply d')); refine aa' ?_ NB265_331.out _; (with_reducible repeat (first | apply c' | apply f' | apply d')); refine aa' ?_ NB265_331.out _; (with_reducible repeat (first | apply c' | apply f' | apply d')); refine aa' ?_ NB265_331.out _; (with_reducible repeat (first | apply c' | apply f' | apply d')); exact BK265.out) hb); have n15_ := cg' (m' (g := gb277) (o := .cells #[.int .i64 t266, .int .i64 t267, .slice Ao53 t268.length co53] 25 (0, 0)) (by (with_reducible repeat (first | apply c' | apply f' | apply d')); refine aa' ?_ NB277_331.out _; (with_reducible repeat (first | apply c' | apply f' | apply d')); refine aa' ?_ NB277_331.out _; (with_reducible repeat (first | apply c' | apply f' | apply d')); refine aa' ?_ NB277_331.out _; (with_reducible repeat (first | apply c' | apply f' | apply d')); exact BK277.out) hb); have n16_ := cg' (m' (g := gb292) (o := .cells #[.int .i64 t286, .int .i64 t287, .slice Ao63 t288.length co63] 25 (0, 0)) (by (with_reducible repeat (first | apply c' | apply f' | apply d')); refine aa' ?_ NB292_331.out _; (with_reducible repeat (first | apply c' | apply f' | apply d')); refine aa' ?_ NB292_331.out _; (with_reducible repeat (first | apply c' | apply f' | apply d')); refine aa' ?_ NB292_331.out _; (with_reducible repeat (first | apply c' | apply f' | apply d')); exact BK292.out) hb); have n17_ := cg' (m' (g := gb302) (o := .cells #[.int .i64 t296, .int .i64 t297, .slice Ao73 t298.length co73] 24 (0, 0)) (by (with_reducible repeat (first | apply c' | apply f' | apply d')); refine aa' ?_ NB302_331.out _; (with_reducible repeat (first | apply c' | apply f' | apply d')); refine aa' ?_ NB302_331.out _; (with_reducible repeat (first | apply c' | apply f' | apply d')); refine aa' ?_ NB302_331.out _; (with_reducible repeat (first | apply c' | apply f' | apply d')); exact BK302.out) hb); have n18_ := cg' (m' (g := gb310) (o := .cells #[.int .i64 t303, .int .i64 t304, .slice Ao82 t305.length co82] 25 (0, 0)) (by (with_reducible repeat (first | apply c' | apply f' | apply d')); refine aa' ?_ NB310_331.out _; (with_reducible repeat (first | apply c' | apply f' | apply d')); refine aa' ?_ NB310_331.out _; (with_reducible repeat (first | apply c' | apply f' | apply d')); refine aa' ?_ NB310_331.out _; (with_reducible repeat (first | apply c' | apply f' | apply d')); exact BK310.out) hb); have n19_ := cg' (m' (g := gb324) (o := .cells #[.int .i64 t317, .int .i64 t318, .slice Ao96 t319.length co96] 24 (0, 0)) (by (with_reducible repeat (first | apply c' | apply f' | apply d')); refine aa' ?_ NB324_331.out _; (with_reducible repeat (first | apply c' | apply f' | apply d')); refine aa' ?_ NB324_331.out _; (with_reducible repeat (first | apply c' | apply f' | apply d')); refine aa' ?_ NB324_331.out _; (with_reducible repeat (first | apply c' | apply f' | apply d')); exact BK324.out) hb); have n20_ := cg' (m' (g := gb331) (o := .cells #[.int .i64 t325, .int .i64 t326, .slice Ao106 t327.length co106] 25 (0, 0)) (by (with_reducible repeat (first | apply c' | apply f' | apply d')); refine blk_put (cs := #[.int .i64 t325, .int .i64 t326, .slice none 0 0]) ?_ 2 _ rfl; (with_reducible repeat (first | apply c' | apply f' | apply d')); refine blk_put (cs := #[.int .i64 t325, .int .i64 0, .slice none 0 0]) ?_ 1 _ rfl; (with_reducible repeat (first | apply c' | apply f' | apply d')); refine blk_put (cs := #[.int .i64 0, .int .i64 0, .slice none 0 0]) ?_ 0 _ rfl; (with_reducible repeat (first | apply c' | apply f' | apply d')); exact BK331.out) hb); have n21_ := cg' (ah' (by repeat (first | (with_reducible first | exact HB.out | apply s' | apply p' | apply r' | refine e' ?_ GE265.out | refine e' ?_ GE277.out | refine e' ?_ GE292.out | refine e' ?_ GE302.out | refine e' ?_ GE310.out | refine e' ?_ GE324.out | refine e' ?_ GE331.out) | exact HB.out)) hb); clear HO270; clear HO273; clear HO276; clear HO280; clear HO284; clear HO290; clear HO295; clear HO300; clear HO307; clear HO313; clear HO316; clear HO321; clear HO329; clear BK265; clear BK277; clear BK292; clear BK302; clear BK310; clear BK324; clear BK331; clear HB; have HO270 := n0_; have HO273 := n1_; have HO276 := n2_; have HO280 := n3_; have HO284 := n4_; have HO290 := n5_; have HO295 := n6_; have HO300 := n7_; have HO307 := n8_; have HO313 := n9_; have HO316 := n10_; have HO321 := n11_; have HO329 := n12_; have HO336 := n13_; have BK265 := n14_; have BK277 := n15_; have BK292 := n16_; have BK302 := n17_; have BK310 := n18_; have BK324 := n19_; have BK331 := n20_; have HB := n21_; clear n0_ n1_ n2_ n3_ n4_ n5_ n6_ n7_ n8_ n9_ n10_ n11_ n12_ n13_ n14_ n15_ n16_ n17_ n18_ n19_ n20_ n21_; (try clear hb); (try clear hb2); (try clear hk); (try clear hi); (try clear ho0)) | ((with_reducible refine gate_dst (N := 26) rfl ?_); refine box_event ?hg (N := 26) ?hd (cs := #[.int .i64 0, .int .i64 0, .slice none 0 0]) (t := 24) ?hr ?_; (case hd => rfl); (case hg => rfl); (case hr => first | (go_simp; done) | (go_simp; rfl)); intro gb338 hg w108 hbox hb; have n0_ := cg' (l' (by (with_reducible repeat (first | apply h' | apply g' | apply j')); exact HO270.out) hb); have n1_ := cg' (v' (Kd.V_elderB (by (with_reducible repeat (first | apply o' | apply n' | apply q')); exact HO273.out) gb338 (Nat.le_of_eq hg.symm)) hb); have n2_ := cg' (v' (Kd.V_elderB (by (with_reducible repeat (first | apply o' | apply n' | apply q')); exact HO276.out) gb338 (Nat.le_of_eq hg.symm)) hb); have n3_ := cg' (l' (by (with_reducible repeat (first | apply h' | apply g' | apply j')); exact HO280.out) hb); have n4_ := cg' (l' (by (with_reducible repeat (first | apply h' | apply g' | apply j')); exact HO284.out) hb); have n5_ := cg' (l' (by (with_reducible repeat (first | apply h' | apply g' | apply j')); exact HO290.out) hb); have n6_ := cg' (v' (Kd.V_elderB (by (with_reducible repeat (first | apply o' | apply n' | apply q')); exact HO295.out) gb338 (Nat.le_of_eq hg.symm)) hb); have n7_ := cg' (l' (by (with_reducible repeat (first | apply h' | apply g' | apply j')); exact HO300.out) hb); have n8_ := cg' (l' (by (with_reducible repeat (first | apply h' | apply g' | apply j')); exact HO307.out) hb); have n9_ := cg' (v' (Kd.V_elderB (by (with_reducible repeat (first | apply o' | apply n' | apply q')); exact HO313.out) gb338 (Nat.le_of_eq hg.symm)) hb); have n10_ := cg' (v' (Kd.V_elderB (by (with_reducible repeat (first | apply o' | apply n' | apply q')); exact HO316.out) gb338 (Nat.le_of_eq hg.symm)) hb); have n11_ := cg' (l' (by (with_reducible repeat (first | apply h' | apply g' | apply j')); exact HO321.out) hb); have n12_ := cg' (l' (by (with_reducible repeat (first | apply h' | apply g' | apply j')); exact HO329.out) hb); have n13_ := cg' (l' (by (with_reducible repeat (first | apply h' | apply g' | apply j')); exact HO336.out) hb); have n14_ := cg' (m' (g := gb265) (o := .cells #[.int .i64 a0_0, .int .i64 a0_1, .slice A0_2 l0_2.length c0_2] 24 (0, 0)) (by (with_reducible repeat (first | apply c' | apply f' | apply d')); exact BK265.out) hb); have n15_ := cg' (m' (g := gb277) (o := .cells #[.int .i64 t266, .int .i64 t267, .slice Ao53 t268.length co53] 25 (0, 0)) (by (with_reducible repeat (first | apply c' | apply f' | apply d')); exact BK277.out) hb); have n16_ := cg' (m' (g := gb292) (o := .cells #[.int .i64 t286, .int .i64 t287, .slice Ao63 t288.length co63] 25 (0, 0)) (by (with_reducible repeat (first | apply c' | apply f' | apply d')); exact BK292.out) hb); have n17_ := cg' (m' (g := gb302) (o := .cells #[.int .i64 t296, .int .i64 t297, .slice Ao73 t298.length co73] 24 (0, 0)) (by (with_reducible repeat (first | apply c' | apply f' | apply d')); exact BK302.out) hb); have n18_ := cg' (m' (g := gb310) (o := .cells #[.int .i64 t303, .int .i64 t304, .slice Ao82 t305.length co82] 25 (0, 0)) (by (with_reducible repeat (first | apply c' | apply f' | apply d')); exact BK310.out) hb); have n19_ := cg' (m' (g := gb324) (o := .cells #[.int .i64 t317, .int .i64 t318, .slice Ao96 t319.length co96] 24 (0, 0)) (by (with_reducible repeat (first | apply c' | apply f' | apply d')); exact BK324.out) hb); have n20_ := cg' (m' (g := gb331) (o := .cells #[.int .i64 t325, .int .i64 t326, .slice Ao106 t327.length co106] 25 (0, 0)) (by (with_reducible repeat (first | apply c' | apply f' | apply d')); exact BK331.out) hb); have n21_ := cg' (ah' (by repeat (first | (with_reducible first | exact HB.out | apply s' | apply p' | apply r' | refine e' ?_ GE265.out | refine e' ?_ GE277.out | refine e' ?_ GE292.out | refine e' ?_ GE302.out | refine e' ?_ GE310.out | refine e' ?_ GE324.out | refine e' ?_ GE331.out) | exact HB.out)) hb); have n22_ := cg' (hbox); have n23_ := cg' ((by rw [hg]; exact (af' (by repeat (first | (with_reducible first | exact HB.out | apply s' | apply p' | apply r' | refine e' ?_ GE265.out | refine e' ?_ GE277.out | refine e' ?_ GE292.out | refine e' ?_ GE302.out | refine e' ?_ GE310.out | refine e' ?_ GE324.out | refine e' ?_ GE331.out) | exact HB.out))) : w.heap.size ≤ gb338)); have n24_ := cg' ((by rw [hg]; exact (af' (by repeat (first | (with_reducible first | exact HB.out | apply s' | apply p' | apply r' | refine e' ?_ GE265.out | refine e' ?_ GE277.out | refine e' ?_ GE292.out | refine e' ?_ GE302.out | refine e' ?_ GE310.out | refine e' ?_ GE324.out | refine e' ?_ GE331.out) | exact HB.out))) : w.heap.size ≤ gb338)); have n25_ := cg' ((by rw [hg]; exact Nat.ne_of_lt (blk_lt (g := gb265) (o := .cells #[.int .i64 a0_0, .int .i64 a0_1, .slice A0_2 l0_2.length c0_2] 24 (0, 0)) (by (with_reducible repeat (first | apply c' | apply f' | apply d')); exact BK265.out)) : gb265 ≠ gb338)); have n26_ := cg' ((by rw [hg]; exact Nat.ne_of_gt (blk_lt (g := gb265) (o := .cells #[.int .i64 a0_0, .int .i64 a0_1, .slice A0_2 l0_2.length c0_2] 24 (0, 0)) (by (with_reducible repeat (first | apply c' | apply f' | apply d')); exact BK265.out)) : gb338 ≠ gb265)); have n27_ := cg' ((by rw [hg]; exact Nat.ne_of_lt (blk_lt (g := gb277) (o := .cells #[.int .i64 t266, .int .i64 t267, .slice Ao53 t268.length co53] 25 (0, 0)) (by (with_reducible repeat (first | apply c' | apply f' | apply d')); exact BK277.out)) : gb277 ≠ gb338)); have n28_ := cg' ((by rw [hg]; exact Nat.ne_of_gt (blk_lt (g := gb277) (o := .cells #[.int .i64 t266, .int .i64 t267, .slice Ao53 t268.length co53] 25 (0, 0)) (by (with_reducible repeat (first | apply c' | apply f' | apply d')); exact BK277.out)) : gb338 ≠ gb277)); have n29_ := cg' ((by rw [hg]; exact Nat.ne_of_lt (blk_lt (g := gb292) (o := .cells #[.int .i64 t286, .int .i64 t287, .slice Ao63 t288.length co63] 25 (0, 0)) (by (with_reducible repeat (first | apply c' | apply f' | apply d')); exact BK292.out)) : gb292 ≠ gb338)); have n30_ := cg' ((by rw [hg]; exact Nat.ne_of_gt (blk_lt (g := gb292) (o := .cells #[.int .i64 t286, .int .i64 t287, .slice Ao63 t288.length co63] 25 (0, 0)) (by (with_reducible repeat (first | apply c' | apply f' | apply d')); exact BK292.out)) : gb338 ≠ gb292)); have n31_ := cg' ((by rw [hg]; exact Nat.ne_of_lt (blk_lt (g := gb302) (o := .cells #[.int .i64 t296, .int .i64 t297, .slice Ao73 t298.length co73] 24 (0, 0)) (by (with_reducible repeat (first | apply c' | apply f' | apply d')); exact BK302.out)) : gb302 ≠ gb338)); have n32_ := cg' ((by rw [hg]; exact Nat.ne_of_gt (blk_lt (g := gb302) (o := .cells #[.int .i64 t296, .int .i64 t297, .slice Ao73 t298.length co73] 24 (0, 0)) (by (with_reducible repeat (first | apply c' | apply f' | apply d')); exact BK302.out)) : gb338 ≠ gb302)); have n33_ := cg' ((by rw [hg]; exact Nat.ne_of_lt (blk_lt (g := gb310) (o := .cells #[.int .i64 t303, .int .i64 t304, .slice Ao82 t305.length co82] 25 (0, 0)) (by (with_reducible repeat (first | apply c' | apply f' | apply d')); exact BK310.out)) : gb310 ≠ gb338)); have n34_ := cg' ((by rw [hg]; exact Nat.ne_of_gt (blk_lt (g := gb310) (o := .cells #[.int .i64 t303, .int .i64 t304, .slice Ao82 t305.length co82] 25 (0, 0)) (by (with_reducible repeat (first | apply c' | apply f' | apply d')); exact BK310.out)) : gb338 ≠ gb310)); have n35_ := cg' ((by rw [hg]; exact Nat.ne_of_lt (blk_lt (g := gb324) (o := .cells #[.int .i64 t317, .int .i64 t318, .slice Ao96 t319.length co96] 24 (0, 0)) (by (with_reducible repeat (first | apply c' | apply f' | apply d')); exact BK324.out)) : gb324 ≠ gb338)); have n36_ := cg' ((by rw [hg]; exact Nat.ne_of_gt (blk_lt (g := gb324) (o := .cells #[.int .i64 t317, .int .i64 t318, .slice Ao96 t319.length co96] 24 (0, 0)) (by (with_reducible repeat (first | apply c' | apply f' | apply d')); exact BK324.out)) : gb338 ≠ gb324)); have n37_ := cg' ((by rw [hg]; exact Nat.ne_of_lt (blk_lt (g := gb331) (o := .cells #[.int .i64 t325, .int .i64 t326, .slice Ao106 t327.length co106] 25 (0, 0)) (by (with_reducible repeat (first | apply c' | apply f' | apply d')); exact BK331.out)) : gb331 ≠ gb338)); have n38_ := cg' ((by rw [hg]; exact Nat.ne_of_gt (blk_lt (g := gb331) (o := .cells #[.int .i64 t325, .int .i64 t326, .slice Ao106 t327.length co106] 25 (0, 0)) (by (with_reducible repeat (first | apply c' | apply f' | apply d')); exact BK331.out)) : gb338 ≠ gb331)); clear HO270; clear HO273; clear HO276; clear HO280; clear HO284; clear HO290; clear HO295; clear HO300; clear HO307; clear HO313; clear HO316; clear HO321; clear HO329; clear HO336; clear BK265; clear BK277; clear BK292; clear BK302; clear BK310; clear BK324; clear BK331; clear HB; have HO270 := n0_; have HO273 := n1_; have HO276 := n2_; have HO280 := n3_; have HO284 := n4_; have HO290 := n5_; have HO295 := n6_; have HO300 := n7_; have HO307 := n8_; have HO313 := n9_; have HO316 := n10_; have HO321 := n11_; have HO329 := n12_; have HO336 := n13_; have BK265 := n14_; have BK277 := n15_; have BK292 := n16_; have BK302 := n17_; have BK310 := n18_; have BK324 := n19_; have BK331 := n20_; have HB := n21_; have BK338 := n22_; have GW338 := n23_; have GE338 := n24_; have NB265_338 := n25_; have NB338_265 := n26_; have NB277_338 := n27_; have NB338_277 := n28_; have NB292_338 := n29_; have NB338_292 := n30_; have NB302_338 := n31_; have NB338_302 := n32_; have NB310_338 := n33_; have NB338_310 := n34_; have NB324_338 := n35_; have NB338_324 := n36_; have NB331_338 := n37_; have NB338_331 := n38_; clear n0_ n1_ n2_ n3_ n4_ n5_ n6_ n7_ n8_ n9_ n10_ n11_ n12_ n13_ n14_ n15_ n16_ n17_ n18_ n19_ n20_ n21_ n22_ n23_ n24_ n25_ n26_ n27_ n28_ n29_ n30_ n31_ n32_ n33_ n34_ n35_ n36_ n37_ n38_; clear hb hbox hg; have hnb109 := NB338_265.out; have hnc109 := NB265_338.out; have hnb110 := NB338_277.out; have hnc110 := NB277_338.out; have hnb111 := NB338_292.out; have hnc111 := NB292_338.out; have hnb112 := NB338_302.out; have hnc112 := NB302_338.out; have hnb113 := NB338_310.out; have hnc113 := NB310_338.out; have hnb114 := NB338_324.out; have hnc114 := NB324_338.out; have hnb115 := NB338_331.out; have hnc115 := NB331_338.out; have hcz116_0 : w108.cell? ⟨gb338, 0, none⟩ = some (.int .i64 0) := (b' BK338.out 0).trans rfl; have hcz116_1 : w108.cell? ⟨gb338, 1, none⟩ = some (.int .i64 0) := (b' BK338.out 1).trans rfl; have hcz116_2 : w108.cell? ⟨gb338, 2, none⟩ = some (.slice none 0 0) := (b' BK338.out 2).trans rfl; have hfz116_0 := ba' BK338.out 0; have hfz116_1 := ba' BK338.out 1; have hfz116_2 := ba' BK338.out 2; obtain ⟨Ao117, co117, eo117⟩ := Kd.R_slice HO336.out; subst eo117))
  have n0_ : Aside0 (Kd.R (Kd.int .u8) 5 (((w108.setCell ⟨gb338, 0, none⟩ (.int .i64 t332)).setCell ⟨gb338, 1, none⟩ (.int .i64 t333)).setCell ⟨gb338, 2, none⟩ (.slice Ao117 t334.length co117)) w.heap.size (fun k_ => some k_ ≠ (v279 : Value).ownBlock ∧ some k_ ≠ (v283 : Value).ownBlock ∧ some k_ ≠ (.slice Ao63 t288.length co63 : Value).ownBlock ∧ some k_ ≠ (.slice Ao73 t298.length co73 : Value).ownBlock ∧ some k_ ≠ (.slice Ao82 t305.length co82 : Value).ownBlock ∧ some k_ ≠ (.slice Ao96 t319.length co96 : Value).ownBlock ∧ some k_ ≠ (.slice Ao106 t327.length co106 : Value).ownBlock ∧ some k_ ≠ (.slice Ao117 t334.length co117 : Value).ownBlock) (.slice Ao53 t268.length co53) t268) := ⟨by (with_reducible repeat (first | apply h' | apply g' | apply j')); exact z' (k' (p := ⟨gb338, 2, none⟩) (k' (p := ⟨gb338, 1, none⟩) (k' (p := ⟨gb338, 0, none⟩) (x' HO270.out BK338.out (by decide)) (fun _ hk => hk.2) (.int .i64 t332)) (fun _ hk => hk.2) (.int .i64 t333)) (fun _ hk => hk.2) (.slice Ao117 t334.length co117)) (fun _ hk => ⟨hk.1.1.1.1.1, ⟨hk.1.1.1.1.2.1, ⟨hk.1.1.1.1.2.2.1, ⟨hk.1.1.1.1.2.2.2.1, ⟨hk.1.1.1.1.2.2.2.2, ⟨hk.1.1.1.2, ⟨hk.1.1.2, hk.1.2⟩⟩⟩⟩⟩⟩⟩)⟩
  have n1_ : Aside0 (Kd.V (Kd.int .u8) 5 (((w108.setCell ⟨gb338, 0, none⟩ (.int .i64 t332)).setCell ⟨gb338, 1, none⟩ (.int .i64 t333)).setCell ⟨gb338, 2, none⟩ (.slice Ao117 t334.length co117)) w.heap.size (fun k_ => some k_ ≠ (.slice Ao53 t268.length co53 : Value).ownBlock ∧ some k_ ≠ (v279 : Value).ownBlock ∧ some k_ ≠ (v283 : Value).ownBlock ∧ some k_ ≠ (.slice Ao63 t288.length co63 : Value).ownBlock ∧ some k_ ≠ (.slice Ao73 t298.length co73 : Value).ownBlock ∧ some k_ ≠ (.slice Ao82 t305.length co82 : Value).ownBlock ∧ some k_ ≠ (.slice Ao96 t319.length co96 : Value).ownBlock ∧ some k_ ≠ (.slice Ao106 t327.length co106 : Value).ownBlock ∧ some k_ ≠ (.slice Ao117 t334.length co117 : Value).ownBlock ∧ k_ ≠ gb265 ∧ k_ ≠ gb277 ∧ k_ ≠ gb292 ∧ k_ ≠ gb302 ∧ k_ ≠ gb310 ∧ k_ ≠ gb324 ∧ k_ ≠ gb331 ∧ k_ ≠ gb338) (.slice Ao57 t271.length co57) t271) := ⟨by (with_reducible repeat (first | apply o' | apply n' | apply q')); exact ab' (y' (p := ⟨gb338, 2, none⟩) (y' (p := ⟨gb338, 1, none⟩) (y' (p := ⟨gb338, 0, none⟩) (ab' HO273.out (fun k_ hk => (⟨hk, hk.2⟩ : _ ∧ k_ ≠ gb338))) (fun _ hk => hk.2) (.int .i64 t332)) (fun _ hk => hk.2) (.int .i64 t333)) (fun _ hk => hk.2) (.slice Ao117 t334.length co117)) (fun _ hk => ⟨hk.1.1.1.1.1.1.1.1, ⟨hk.1.1.1.1.1.1.1.2.1, ⟨hk.1.1.1.1.1.1.1.2.2.1, ⟨hk.1.1.1.1.1.1.1.2.2.2.1, ⟨hk.1.1.1.1.1.1.1.2.2.2.2.1, ⟨hk.1.1.1.1.1.1.1.2.2.2.2.2.1, ⟨hk.1.1.1.1.1.1.2, ⟨hk.1.1.1.1.2, ⟨hk.1.1.2, ⟨hk.1.1.1.1.1.1.1.2.2.2.2.2.2.1, ⟨hk.1.1.1.1.1.1.1.2.2.2.2.2.2.2.1, ⟨hk.1.1.1.1.1.1.1.2.2.2.2.2.2.2.2.1, ⟨hk.1.1.1.1.1.1.1.2.2.2.2.2.2.2.2.2.1, ⟨hk.1.1.1.1.1.1.1.2.2.2.2.2.2.2.2.2.2, ⟨hk.1.1.1.1.1.2, ⟨hk.1.1.1.2, hk.1.2⟩⟩⟩⟩⟩⟩⟩⟩⟩⟩⟩⟩⟩⟩⟩⟩)⟩
  have n2_ : Aside0 (Kd.V (Kd.int .u8) 5 (((w108.setCell ⟨gb338, 0, none⟩ (.int .i64 t332)).setCell ⟨gb338, 1, none⟩ (.int .i64 t333)).setCell ⟨gb338, 2, none⟩ (.slice Ao117 t334.length co117)) w.heap.size (fun k_ => some k_ ≠ (.slice Ao53 t268.length co53 : Value).ownBlock ∧ some k_ ≠ (v279 : Value).ownBlock ∧ some k_ ≠ (v283 : Value).ownBlock ∧ some k_ ≠ (.slice Ao63 t288.length co63 : Value).ownBlock ∧ some k_ ≠ (.slice Ao73 t298.length co73 : Value).ownBlock ∧ some k_ ≠ (.slice Ao82 t305.length co82 : Value).ownBlock ∧ some k_ ≠ (.slice Ao96 t319.length co96 : Value).ownBlock ∧ some k_ ≠ (.slice Ao106 t327.length co106 : Value).ownBlock ∧ some k_ ≠ (.slice Ao117 t334.length co117 : Value).ownBlock ∧ k_ ≠ gb265 ∧ k_ ≠ gb277 ∧ k_ ≠ gb292 ∧ k_ ≠ gb302 ∧ k_ ≠ gb310 ∧ k_ ≠ gb324 ∧ k_ ≠ gb331 ∧ k_ ≠ gb338) (.slice Ao74 t274.length co74) t274) := ⟨by (with_reducible repeat (first | apply o' | apply n' | apply q')); exact ab' (y' (p := ⟨gb338, 2, none⟩) (y' (p := ⟨gb338, 1, none⟩) (y' (p := ⟨gb338, 0, none⟩) (ab' HO276.out (fun k_ hk => (⟨hk, hk.2⟩ : _ ∧ k_ ≠ gb338))) (fun _ hk => hk.2) (.int .i64 t332)) (fun _ hk => hk.2) (.int .i64 t333)) (fun _ hk => hk.2) (.slice Ao117 t334.length co117)) (fun _ hk => ⟨hk.1.1.1.1.1.1.1.1, ⟨hk.1.1.1.1.1.1.1.2.1, ⟨hk.1.1.1.1.1.1.1.2.2.1, ⟨hk.1.1.1.1.1.1.1.2.2.2.1, ⟨hk.1.1.1.1.1.1.1.2.2.2.2.1, ⟨hk.1.1.1.1.1.1.1.2.2.2.2.2.1, ⟨hk.1.1.1.1.1.1.2, ⟨hk.1.1.1.1.2, ⟨hk.1.1.2, ⟨hk.1.1.1.1.1.1.1.2.2.2.2.2.2.1, ⟨hk.1.1.1.1.1.1.1.2.2.2.2.2.2.2.1, ⟨hk.1.1.1.1.1.1.1.2.2.2.2.2.2.2.2.1, ⟨hk.1.1.1.1.1.1.1.2.2.2.2.2.2.2.2.2.1, ⟨hk.1.1.1.1.1.1.1.2.2.2.2.2.2.2.2.2.2, ⟨hk.1.1.1.1.1.2, ⟨hk.1.1.1.2, hk.1.2⟩⟩⟩⟩⟩⟩⟩⟩⟩⟩⟩⟩⟩⟩⟩⟩)⟩
  have n3_ : Aside0 (Kd.R (Kd.int .u8) 5 (((w108.setCell ⟨gb338, 0, none⟩ (.int .i64 t332)).setCell ⟨gb338, 1, none⟩ (.int .i64 t333)).setCell ⟨gb338, 2, none⟩ (.slice Ao117 t334.length co117)) w.heap.size (fun k_ => some k_ ≠ (.slice Ao53 t268.length co53 : Value).ownBlock ∧ some k_ ≠ (v283 : Value).ownBlock ∧ some k_ ≠ (.slice Ao63 t288.length co63 : Value).ownBlock ∧ some k_ ≠ (.slice Ao73 t298.length co73 : Value).ownBlock ∧ some k_ ≠ (.slice Ao82 t305.length co82 : Value).ownBlock ∧ some k_ ≠ (.slice Ao96 t319.length co96 : Value).ownBlock ∧ some k_ ≠ (.slice Ao106 t327.length co106 : Value).ownBlock ∧ some k_ ≠ (.slice Ao117 t334.length co117 : Value).ownBlock) v279 t278) := ⟨by (with_reducible repeat (first | apply h' | apply g' | apply j')); exact z' (k' (p := ⟨gb338, 2, none⟩) (k' (p := ⟨gb338, 1, none⟩) (k' (p := ⟨gb338, 0, none⟩) (x' HO280.out BK338.out (by decide)) (fun _ hk => hk.2) (.int .i64 t332)) (fun _ hk => hk.2) (.int .i64 t333)) (fun _ hk => hk.2) (.slice Ao117 t334.length co117)) (fun _ hk => ⟨hk.1.1.1.1.1, ⟨hk.1.1.1.1.2.1, ⟨hk.1.1.1.1.2.2.1, ⟨hk.1.1.1.1.2.2.2.1, ⟨hk.1.1.1.1.2.2.2.2, ⟨hk.1.1.1.2, ⟨hk.1.1.2, hk.1.2⟩⟩⟩⟩⟩⟩⟩)⟩
  have n4_ : Aside0 (Kd.R (Kd.int .u8) 5 (((w108.setCell ⟨gb338, 0, none⟩ (.int .i64 t332)).setCell ⟨gb338, 1, none⟩ (.int .i64 t333)).setCell ⟨gb338, 2, none⟩ (.slice Ao117 t334.length co117)) w.heap.size (fun k_ => some k_ ≠ (.slice Ao53 t268.length co53 : Value).ownBlock ∧ some k_ ≠ (v279 : Value).ownBlock ∧ some k_ ≠ (.slice Ao63 t288.length co63 : Value).ownBlock ∧ some k_ ≠ (.slice Ao73 t298.length co73 : Value).ownBlock ∧ some k_ ≠ (.slice Ao82 t305.length co82 : Value).ownBlock ∧ some k_ ≠ (.slice Ao96 t319.length co96 : Value).ownBlock ∧ some k_ ≠ (.slice Ao106 t327.length co106 : Value).ownBlock ∧ some k_ ≠ (.slice Ao117 t334.length co117 : Value).ownBlock) v283 t282) := ⟨by (with_reducible repeat (first | apply h' | apply g' | apply j')); exact z' (k' (p := ⟨gb338, 2, none⟩) (k' (p := ⟨gb338, 1, none⟩) (k' (p := ⟨gb338, 0, none⟩) (x' HO284.out BK338.out (by decide)) (fun _ hk => hk.2) (.int .i64 t332)) (fun _ hk => hk.2) (.int .i64 t333)) (fun _ hk => hk.2) (.slice Ao117 t334.length co117)) (fun _ hk => ⟨hk.1.1.1.1.1, ⟨hk.1.1.1.1.2.1, ⟨hk.1.1.1.1.2.2.1, ⟨hk.1.1.1.1.2.2.2.1, ⟨hk.1.1.1.1.2.2.2.2, ⟨hk.1.1.1.2, ⟨hk.1.1.2, hk.1.2⟩⟩⟩⟩⟩⟩⟩)⟩
  have n5_ : Aside0 (Kd.R (Kd.int .u8) 5 (((w108.setCell ⟨gb338, 0, none⟩ (.int .i64 t332)).setCell ⟨gb338, 1, none⟩ (.int .i64 t333)).setCell ⟨gb338, 2, none⟩ (.slice Ao117 t334.length co117)) w.heap.size (fun k_ => some k_ ≠ (.slice Ao53 t268.length co53 : Value).ownBlock ∧ some k_ ≠ (v279 : Value).ownBlock ∧ some k_ ≠ (v283 : Value).ownBlock ∧ some k_ ≠ (.slice Ao73 t298.length co73 : Value).ownBlock ∧ some k_ ≠ (.slice Ao82 t305.length co82 : Value).ownBlock ∧ some k_ ≠ (.slice Ao96 t319.length co96 : Value).ownBlock ∧ some k_ ≠ (.slice Ao106 t327.length co106 : Value).ownBlock ∧ some k_ ≠ (.slice Ao117 t334.length co117 : Value).ownBlock) (.slice Ao63 t288.length co63) t288) := ⟨by (with_reducible repeat (first | apply h' | apply g' | apply j')); exact z' (k' (p := ⟨gb338, 2, none⟩) (k' (p := ⟨gb338, 1, none⟩) (k' (p := ⟨gb338, 0, none⟩) (x' HO290.out BK338.out (by decide)) (fun _ hk => hk.2) (.int .i64 t332)) (fun _ hk => hk.2) (.int .i64 t333)) (fun _ hk => hk.2) (.slice Ao117 t334.length co117)) (fun _ hk => ⟨hk.1.1.1.1.1, ⟨hk.1.1.1.1.2.1, ⟨hk.1.1.1.1.2.2.1, ⟨hk.1.1.1.1.2.2.2.1, ⟨hk.1.1.1.1.2.2.2.2, ⟨hk.1.1.1.2, ⟨hk.1.1.2, hk.1.2⟩⟩⟩⟩⟩⟩⟩)⟩
  have n6_ : Aside0 (Kd.V (Kd.int .u8) 5 (((w108.setCell ⟨gb338, 0, none⟩ (.int .i64 t332)).setCell ⟨gb338, 1, none⟩ (.int .i64 t333)).setCell ⟨gb338, 2, none⟩ (.slice Ao117 t334.length co117)) w.heap.size (fun k_ => some k_ ≠ (.slice Ao53 t268.length co53 : Value).ownBlock ∧ some k_ ≠ (v279 : Value).ownBlock ∧ some k_ ≠ (v283 : Value).ownBlock ∧ some k_ ≠ (.slice Ao63 t288.length co63 : Value).ownBlock ∧ some k_ ≠ (.slice Ao73 t298.length co73 : Value).ownBlock ∧ some k_ ≠ (.slice Ao82 t305.length co82 : Value).ownBlock ∧ some k_ ≠ (.slice Ao96 t319.length co96 : Value).ownBlock ∧ some k_ ≠ (.slice Ao106 t327.length co106 : Value).ownBlock ∧ some k_ ≠ (.slice Ao117 t334.length co117 : Value).ownBlock ∧ k_ ≠ gb265 ∧ k_ ≠ gb277 ∧ k_ ≠ gb292 ∧ k_ ≠ gb302 ∧ k_ ≠ gb310 ∧ k_ ≠ gb324 ∧ k_ ≠ gb331 ∧ k_ ≠ gb338) (.slice Ao66 t293.length co66) t293) := ⟨by (with_reducible repeat (first | apply o' | apply n' | apply q')); exact ab' (y' (p := ⟨gb338, 2, none⟩) (y' (p := ⟨gb338, 1, none⟩) (y' (p := ⟨gb338, 0, none⟩) (ab' HO295.out (fun k_ hk => (⟨hk, hk.2⟩ : _ ∧ k_ ≠ gb338))) (fun _ hk => hk.2) (.int .i64 t332)) (fun _ hk => hk.2) (.int .i64 t333)) (fun _ hk => hk.2) (.slice Ao117 t334.length co117)) (fun _ hk => ⟨hk.1.1.1.1.1.1.1.1, ⟨hk.1.1.1.1.1.1.1.2.1, ⟨hk.1.1.1.1.1.1.1.2.2.1, ⟨hk.1.1.1.1.1.1.1.2.2.2.1, ⟨hk.1.1.1.1.1.1.1.2.2.2.2.1, ⟨hk.1.1.1.1.1.1.1.2.2.2.2.2.1, ⟨hk.1.1.1.1.1.1.2, ⟨hk.1.1.1.1.2, ⟨hk.1.1.2, ⟨hk.1.1.1.1.1.1.1.2.2.2.2.2.2.1, ⟨hk.1.1.1.1.1.1.1.2.2.2.2.2.2.2.1, ⟨hk.1.1.1.1.1.1.1.2.2.2.2.2.2.2.2.1, ⟨hk.1.1.1.1.1.1.1.2.2.2.2.2.2.2.2.2.1, ⟨hk.1.1.1.1.1.1.1.2.2.2.2.2.2.2.2.2.2, ⟨hk.1.1.1.1.1.2, ⟨hk.1.1.1.2, hk.1.2⟩⟩⟩⟩⟩⟩⟩⟩⟩⟩⟩⟩⟩⟩⟩⟩)⟩
  have n7_ : Aside0 (Kd.R (Kd.int .u8) 5 (((w108.setCell ⟨gb338, 0, none⟩ (.int .i64 t332)).setCell ⟨gb338, 1, none⟩ (.int .i64 t333)).setCell ⟨gb338, 2, none⟩ (.slice Ao117 t334.length co117)) w.heap.size (fun k_ => some k_ ≠ (.slice Ao53 t268.length co53 : Value).ownBlock ∧ some k_ ≠ (v279 : Value).ownBlock ∧ some k_ ≠ (v283 : Value).ownBlock ∧ some k_ ≠ (.slice Ao63 t288.length co63 : Value).ownBlock ∧ some k_ ≠ (.slice Ao82 t305.length co82 : Value).ownBlock ∧ some k_ ≠ (.slice Ao96 t319.length co96 : Value).ownBlock ∧ some k_ ≠ (.slice Ao106 t327.length co106 : Value).ownBlock ∧ some k_ ≠ (.slice Ao117 t334.length co117 : Value).ownBlock) (.slice Ao73 t298.length co73) t298) := ⟨by (with_reducible repeat (first | apply h' | apply g' | apply j')); exact z' (k' (p := ⟨gb338, 2, none⟩) (k' (p := ⟨gb338, 1, none⟩) (k' (p := ⟨gb338, 0, none⟩) (x' HO300.out BK338.out (by decide)) (fun _ hk => hk.2) (.int .i64 t332)) (fun _ hk => hk.2) (.int .i64 t333)) (fun _ hk => hk.2) (.slice Ao117 t334.length co117)) (fun _ hk => ⟨hk.1.1.1.1.1, ⟨hk.1.1.1.1.2.1, ⟨hk.1.1.1.1.2.2.1, ⟨hk.1.1.1.1.2.2.2.1, ⟨hk.1.1.1.1.2.2.2.2, ⟨hk.1.1.1.2, ⟨hk.1.1.2, hk.1.2⟩⟩⟩⟩⟩⟩⟩)⟩
  have n8_ : Aside0 (Kd.R (Kd.int .u8) 5 (((w108.setCell ⟨gb338, 0, none⟩ (.int .i64 t332)).setCell ⟨gb338, 1, none⟩ (.int .i64 t333)).setCell ⟨gb338, 2, none⟩ (.slice Ao117 t334.length co117)) w.heap.size (fun k_ => some k_ ≠ (.slice Ao53 t268.length co53 : Value).ownBlock ∧ some k_ ≠ (v279 : Value).ownBlock ∧ some k_ ≠ (v283 : Value).ownBlock ∧ some k_ ≠ (.slice Ao63 t288.length co63 : Value).ownBlock ∧ some k_ ≠ (.slice Ao73 t298.length co73 : Value).ownBlock ∧ some k_ ≠ (.slice Ao96 t319.length co96 : Value).ownBlock ∧ some k_ ≠ (.slice Ao106 t327.length co106 : Value).ownBlock ∧ some k_ ≠ (.slice Ao117 t334.length co117 : Value).ownBlock) (.slice Ao82 t305.length co82) t305) := ⟨by (with_reducible repeat (first | apply h' | apply g' | apply j')); exact z' (k' (p := ⟨gb338, 2, none⟩) (k' (p := ⟨gb338, 1, none⟩) (k' (p := ⟨gb338, 0, none⟩) (x' HO307.out BK338.out (by decide)) (fun _ hk => hk.2) (.int .i64 t332)) (fun _ hk => hk.2) (.int .i64 t333)) (fun _ hk => hk.2) (.slice Ao117 t334.length co117)) (fun _ hk => ⟨hk.1.1.1.1.1, ⟨hk.1.1.1.1.2.1, ⟨hk.1.1.1.1.2.2.1, ⟨hk.1.1.1.1.2.2.2.1, ⟨hk.1.1.1.1.2.2.2.2, ⟨hk.1.1.1.2, ⟨hk.1.1.2, hk.1.2⟩⟩⟩⟩⟩⟩⟩)⟩
  have n9_ : Aside0 (Kd.V (Kd.int .u8) 5 (((w108.setCell ⟨gb338, 0, none⟩ (.int .i64 t332)).setCell ⟨gb338, 1, none⟩ (.int .i64 t333)).setCell ⟨gb338, 2, none⟩ (.slice Ao117 t334.length co117)) w.heap.size (fun k_ => some k_ ≠ (.slice Ao53 t268.length co53 : Value).ownBlock ∧ some k_ ≠ (v279 : Value).ownBlock ∧ some k_ ≠ (v283 : Value).ownBlock ∧ some k_ ≠ (.slice Ao63 t288.length co63 : Value).ownBlock ∧ some k_ ≠ (.slice Ao73 t298.length co73 : Value).ownBlock ∧ some k_ ≠ (.slice Ao82 t305.length co82 : Value).ownBlock ∧ some k_ ≠ (.slice Ao96 t319.length co96 : Value).ownBlock ∧ some k_ ≠ (.slice Ao106 t327.length co106 : Value).ownBlock ∧ some k_ ≠ (.slice Ao117 t334.length co117 : Value).ownBlock ∧ k_ ≠ gb265 ∧ k_ ≠ gb277 ∧ k_ ≠ gb292 ∧ k_ ≠ gb302 ∧ k_ ≠ gb310 ∧ k_ ≠ gb324 ∧ k_ ≠ gb331 ∧ k_ ≠ gb338) (.slice Ao86 t311.length co86) t311) := ⟨by (with_reducible repeat (first | apply o' | apply n' | apply q')); exact ab' (y' (p := ⟨gb338, 2, none⟩) (y' (p := ⟨gb338, 1, none⟩) (y' (p := ⟨gb338, 0, none⟩) (ab' HO313.out (fun k_ hk => (⟨hk, hk.2⟩ : _ ∧ k_ ≠ gb338))) (fun _ hk => hk.2) (.int .i64 t332)) (fun _ hk => hk.2) (.int .i64 t333)) (fun _ hk => hk.2) (.slice Ao117 t334.length co117)) (fun _ hk => ⟨hk.1.1.1.1.1.1.1.1, ⟨hk.1.1.1.1.1.1.1.2.1, ⟨hk.1.1.1.1.1.1.1.2.2.1, ⟨hk.1.1.1.1.1.1.1.2.2.2.1, ⟨hk.1.1.1.1.1.1.1.2.2.2.2.1, ⟨hk.1.1.1.1.1.1.1.2.2.2.2.2.1, ⟨hk.1.1.1.1.1.1.2, ⟨hk.1.1.1.1.2, ⟨hk.1.1.2, ⟨hk.1.1.1.1.1.1.1.2.2.2.2.2.2.1, ⟨hk.1.1.1.1.1.1.1.2.2.2.2.2.2.2.1, ⟨hk.1.1.1.1.1.1.1.2.2.2.2.2.2.2.2.1, ⟨hk.1.1.1.1.1.1.1.2.2.2.2.2.2.2.2.2.1, ⟨hk.1.1.1.1.1.1.1.2.2.2.2.2.2.2.2.2.2, ⟨hk.1.1.1.1.1.2, ⟨hk.1.1.1.2, hk.1.2⟩⟩⟩⟩⟩⟩⟩⟩⟩⟩⟩⟩⟩⟩⟩⟩)⟩
  have n10_ : Aside0 (Kd.V (Kd.int .u8) 5 (((w108.setCell ⟨gb338, 0, none⟩ (.int .i64 t332)).setCell ⟨gb338, 1, none⟩ (.int .i64 t333)).setCell ⟨gb338, 2, none⟩ (.slice Ao117 t334.length co117)) w.heap.size (fun k_ => some k_ ≠ (.slice Ao53 t268.length co53 : Value).ownBlock ∧ some k_ ≠ (v279 : Value).ownBlock ∧ some k_ ≠ (v283 : Value).ownBlock ∧ some k_ ≠ (.slice Ao63 t288.length co63 : Value).ownBlock ∧ some k_ ≠ (.slice Ao73 t298.length co73 : Value).ownBlock ∧ some k_ ≠ (.slice Ao82 t305.length co82 : Value).ownBlock ∧ some k_ ≠ (.slice Ao96 t319.length co96 : Value).ownBlock ∧ some k_ ≠ (.slice Ao106 t327.length co106 : Value).ownBlock ∧ some k_ ≠ (.slice Ao117 t334.length co117 : Value).ownBlock ∧ k_ ≠ gb265 ∧ k_ ≠ gb277 ∧ k_ ≠ gb292 ∧ k_ ≠ gb302 ∧ k_ ≠ gb310 ∧ k_ ≠ gb324 ∧ k_ ≠ gb331 ∧ k_ ≠ gb338) (.slice Ao87 t314.length co87) t314) := ⟨by (with_reducible repeat (first | apply o' | apply n' | apply q')); exact ab' (y' (p := ⟨gb338, 2, none⟩) (y' (p := ⟨gb338, 1, none⟩) (y' (p := ⟨gb338, 0, none⟩) (ab' HO316.out (fun k_ hk => (⟨hk, hk.2⟩ : _ ∧ k_ ≠ gb338))) (fun _ hk => hk.2) (.int .i64 t332)) (fun _ hk => hk.2) (.int .i64 t333)) (fun _ hk => hk.2) (.slice Ao117 t334.length co117)) (fun _ hk => ⟨hk.1.1.1.1.1.1.1.1, ⟨hk.1.1.1.1.1.1.1.2.1, ⟨hk.1.1.1.1.1.1.1.2.2.1, ⟨hk.1.1.1.1.1.1.1.2.2.2.1, ⟨hk.1.1.1.1.1.1.1.2.2.2.2.1, ⟨hk.1.1.1.1.1.1.1.2.2.2.2.2.1, ⟨hk.1.1.1.1.1.1.2, ⟨hk.1.1.1.1.2, ⟨hk.1.1.2, ⟨hk.1.1.1.1.1.1.1.2.2.2.2.2.2.1, ⟨hk.1.1.1.1.1.1.1.2.2.2.2.2.2.2.1, ⟨hk.1.1.1.1.1.1.1.2.2.2.2.2.2.2.2.1, ⟨hk.1.1.1.1.1.1.1.2.2.2.2.2.2.2.2.2.1, ⟨hk.1.1.1.1.1.1.1.2.2.2.2.2.2.2.2.2.2, ⟨hk.1.1.1.1.1.2, ⟨hk.1.1.1.2, hk.1.2⟩⟩⟩⟩⟩⟩⟩⟩⟩⟩⟩⟩⟩⟩⟩⟩)⟩
  have n11_ : Aside0 (Kd.R (Kd.int .u8) 5 (((w108.setCell ⟨gb338, 0, none⟩ (.int .i64 t332)).setCell ⟨gb338, 1, none⟩ (.int .i64 t333)).setCell ⟨gb338, 2, none⟩ (.slice Ao117 t334.length co117)) w.heap.size (fun k_ => some k_ ≠ (.slice Ao53 t268.length co53 : Value).ownBlock ∧ some k_ ≠ (v279 : Value).ownBlock ∧ some k_ ≠ (v283 : Value).ownBlock ∧ some k_ ≠ (.slice Ao63 t288.length co63 : Value).ownBlock ∧ some k_ ≠ (.slice Ao73 t298.length co73 : Value).ownBlock ∧ some k_ ≠ (.slice Ao82 t305.length co82 : Value).ownBlock ∧ some k_ ≠ (.slice Ao106 t327.length co106 : Value).ownBlock ∧ some k_ ≠ (.slice Ao117 t334.length co117 : Value).ownBlock) (.slice Ao96 t319.length co96) t319) := ⟨by (with_reducible repeat (first | apply h' | apply g' | apply j')); exact z' (k' (p := ⟨gb338, 2, none⟩) (k' (p := ⟨gb338, 1, none⟩) (k' (p := ⟨gb338, 0, none⟩) (x' HO321.out BK338.out (by decide)) (fun _ hk => hk.2) (.int .i64 t332)) (fun _ hk => hk.2) (.int .i64 t333)) (fun _ hk => hk.2) (.slice Ao117 t334.length co117)) (fun _ hk => ⟨hk.1.1.1.1.1.1.1.1.2, ⟨hk.1.1.1.1.1.1.1.2, ⟨hk.1.1.1.1.1.1.2, ⟨hk.1.1.1.1.1.2, ⟨hk.1.1.1.1.2, ⟨hk.1.1.1.2, ⟨hk.1.1.2, hk.1.2⟩⟩⟩⟩⟩⟩⟩)⟩
  have n12_ : Aside0 (Kd.R (Kd.int .u8) 5 (((w108.setCell ⟨gb338, 0, none⟩ (.int .i64 t332)).setCell ⟨gb338, 1, none⟩ (.int .i64 t333)).setCell ⟨gb338, 2, none⟩ (.slice Ao117 t334.length co117)) w.heap.size (fun k_ => some k_ ≠ (.slice Ao53 t268.length co53 : Value).ownBlock ∧ some k_ ≠ (v279 : Value).ownBlock ∧ some k_ ≠ (v283 : Value).ownBlock ∧ some k_ ≠ (.slice Ao63 t288.length co63 : Value).ownBlock ∧ some k_ ≠ (.slice Ao73 t298.length co73 : Value).ownBlock ∧ some k_ ≠ (.slice Ao82 t305.length co82 : Value).ownBlock ∧ some k_ ≠ (.slice Ao96 t319.length co96 : Value).ownBlock ∧ some k_ ≠ (.slice Ao117 t334.length co117 : Value).ownBlock) (.slice Ao106 t327.length co106) t327) := ⟨by (with_reducible repeat (first | apply h' | apply g' | apply j')); exact z' (k' (p := ⟨gb338, 2, none⟩) (k' (p := ⟨gb338, 1, none⟩) (k' (p := ⟨gb338, 0, none⟩) (x' HO329.out BK338.out (by decide)) (fun _ hk => hk.2) (.int .i64 t332)) (fun _ hk => hk.2) (.int .i64 t333)) (fun _ hk => hk.2) (.slice Ao117 t334.length co117)) (fun _ hk => ⟨hk.1.1.1.1.1.1.1.1.2, ⟨hk.1.1.1.1.1.1.1.2, ⟨hk.1.1.1.1.1.1.2, ⟨hk.1.1.1.1.1.2, ⟨hk.1.1.1.1.2, ⟨hk.1.1.1.2, ⟨hk.1.1.2, hk.1.2⟩⟩⟩⟩⟩⟩⟩)⟩
  have n13_ : Aside0 (Kd.R (Kd.int .u8) 5 (((w108.setCell ⟨gb338, 0, none⟩ (.int .i64 t332)).setCell ⟨gb338, 1, none⟩ (.int .i64 t333)).setCell ⟨gb338, 2, none⟩ (.slice Ao117 t334.length co117)) w.heap.size (fun k_ => some k_ ≠ (.slice Ao53 t268.length co53 : Value).ownBlock ∧ some k_ ≠ (v279 : Value).ownBlock ∧ some k_ ≠ (v283 : Value).ownBlock ∧ some k_ ≠ (.slice Ao63 t288.length co63 : Value).ownBlock ∧ some k_ ≠ (.slice Ao73 t298.length co73 : Value).ownBlock ∧ some k_ ≠ (.slice Ao82 t305.length co82 : Value).ownBlock ∧ some k_ ≠ (.slice Ao96 t319.length co96 : Value).ownBlock ∧ some k_ ≠ (.slice Ao106 t327.length co106 : Value).ownBlock) (.slice Ao117 t334.length co117) t334) := ⟨by (with_reducible repeat (first | apply h' | apply g' | apply j')); exact z' (k' (p := ⟨gb338, 2, none⟩) (k' (p := ⟨gb338, 1, none⟩) (k' (p := ⟨gb338, 0, none⟩) (x' HO336.out BK338.out (by decide)) (fun _ hk => hk.2) (.int .i64 t332)) (fun _ hk => hk.2) (.int .i64 t333)) (fun _ hk => hk.2) (.slice Ao117 t334.length co117)) (fun _ hk => ⟨hk.1.1.1.1.1.1.1.1.2, ⟨hk.1.1.1.1.1.1.1.2, ⟨hk.1.1.1.1.1.1.2, ⟨hk.1.1.1.1.1.2, ⟨hk.1.1.1.1.2, ⟨hk.1.1.1.2, ⟨hk.1.1.2, hk.1.2⟩⟩⟩⟩⟩⟩⟩)⟩
  have n14_ : Aside0 ((((w108.setCell ⟨gb338, 0, none⟩ (.int .i64 t332)).setCell ⟨gb338, 1, none⟩ (.int .i64 t333)).setCell ⟨gb338, 2, none⟩ (.slice Ao117 t334.length co117)).heap[gb265]? = some (.cells #[.int .i64 a0_0, .int .i64 a0_1, .slice A0_2 l0_2.length c0_2] 24 (0, 0))) := ⟨by (with_reducible repeat (first | apply c' | apply f' | apply d')); refine aa' ?_ NB265_338.out _; (with_reducible repeat (first | apply c' | apply f' | apply d')); refine aa' ?_ NB265_338.out _; (with_reducible repeat (first | apply c' | apply f' | apply d')); refine aa' ?_ NB265_338.out _; (with_reducible repeat (first | apply c' | apply f' | apply d')); exact BK265.out⟩
  have n15_ : Aside0 ((((w108.setCell ⟨gb338, 0, none⟩ (.int .i64 t332)).setCell ⟨gb338, 1, none⟩ (.int .i64 t333)).setCell ⟨gb338, 2, none⟩ (.slice Ao117 t334.length co117)).heap[gb277]? = some (.cells #[.int .i64 t266, .int .i64 t267, .slice Ao53 t268.length co53] 25 (0, 0))) := ⟨by (with_reducible repeat (first | apply c' | apply f' | apply d')); refine aa' ?_ NB277_338.out _; (with_reducible repeat (first | apply c' | apply f' | apply d')); refine aa' ?_ NB277_338.out _; (with_reducible repeat (first | apply c' | apply f' | apply d')); refine aa' ?_ NB277_338.out _; (with_reducible repeat (first | apply c' | apply f' | apply d')); exact BK277.out⟩
  have n16_ : Aside0 ((((w108.setCell ⟨gb338, 0, none⟩ (.int .i64 t332)).setCell ⟨gb338, 1, none⟩ (.int .i64 t333)).setCell ⟨gb338, 2, none⟩ (.slice Ao117 t334.length co117)).heap[gb292]? = some (.cells #[.int .i64 t286, .int .i64 t287, .slice Ao63 t288.length co63] 25 (0, 0))) := ⟨by (with_reducible repeat (first | apply c' | apply f' | apply d')); refine aa' ?_ NB292_338.out _; (with_reducible repeat (first | apply c' | apply f' | apply d')); refine aa' ?_ NB292_338.out _; (with_reducible repeat (first | apply c' | apply f' | apply d')); refine aa' ?_ NB292_338.out _; (with_reducible repeat (first | apply c' | apply f' | apply d')); exact BK292.out⟩
  have n17_ : Aside0 ((((w108.setCell ⟨gb338, 0, none⟩ (.int .i64 t332)).setCell ⟨gb338, 1, none⟩ (.int .i64 t333)).setCell ⟨gb338, 2, none⟩ (.slice Ao117 t334.length co117)).heap[gb302]? = some (.cells #[.int .i64 t296, .int .i64 t297, .slice Ao73 t298.length co73] 24 (0, 0))) := ⟨by (with_reducible repeat (first | apply c' | apply f' | apply d')); refine aa' ?_ NB302_338.out _; (with_reducible repeat (first | apply c' | apply f' | apply d')); refine aa' ?_ NB302_338.out _; (with_reducible repeat (first | apply c' | apply f' | apply d')); refine aa' ?_ NB302_338.out _; (with_reducible repeat (first | apply c' | apply f' | apply d')); exact BK302.out⟩
  have n18_ : Aside0 ((((w108.setCell ⟨gb338, 0, none⟩ (.int .i64 t332)).setCell ⟨gb338, 1, none⟩ (.int .i64 t333)).setCell ⟨gb338, 2, none⟩ (.slice Ao117 t334.length co117)).heap[gb310]? = some (.cells #[.int .i64 t303, .int .i64 t304, .slice Ao82 t305.length co82] 25 (0, 0))) := ⟨by (with_reducible repeat (first | apply c' | apply f' | apply d')); refine aa' ?_ NB310_338.out _; (with_reducible repeat (first | apply c' | apply f' | apply d')); refine aa' ?_ NB310_338.out _; (with_reducible repeat (first | apply c' | apply f' | apply d')); refine aa' ?_ NB310_338.out _; (with_reducible repeat (first | apply c' | apply f' | apply d')); exact BK310.out⟩
  have n19_ : Aside0 ((((w108.setCell ⟨gb338, 0, none⟩ (.int .i64 t332)).setCell ⟨gb338, 1, none⟩ (.int .i64 t333)).setCell ⟨gb338, 2, none⟩ (.slice Ao117 t334.length co117)).heap[gb324]? = some (.cells #[.int .i64 t317, .int .i64 t318, .slice Ao96 t319.length co96] 24 (0, 0))) := ⟨by (with_reducible repeat (first | apply c' | apply f' | apply d')); refine aa' ?_ NB324_338.out _; (with_reducible repeat (first | apply c' | apply f' | apply d')); refine aa' ?_ NB324_338.out _; (with_reducible repeat (first | apply c' | apply f' | apply d')); refine aa' ?_ NB324_338.out _; (with_reducible repeat (first | apply c' | apply f' | apply d')); exact BK324.out⟩
  have n20_ : Aside0 ((((w108.setCell ⟨gb338, 0, none⟩ (.int .i64 t332)).setCell ⟨gb338, 1, none⟩ (.int .i64 t333)).setCell ⟨gb338, 2, none⟩ (.slice Ao117 t334.length co117)).heap[gb331]? = some (.cells #[.int .i64 t325, .int .i64 t326, .slice Ao106 t327.length co106] 25 (0, 0))) := ⟨by (with_reducible repeat (first | apply c' | apply f' | apply d')); refine aa' ?_ NB331_338.out _; (with_reducible repeat (first | apply c' | apply f' | apply d')); refine aa' ?_ NB331_338.out _; (with_reducible repeat (first | apply c' | apply f' | apply d')); refine aa' ?_ NB331_338.out _; (with_reducible repeat (first | apply c' | apply f' | apply d')); exact BK331.out⟩
  have n21_ : Aside0 ((((w108.setCell ⟨gb338, 0, none⟩ (.int .i64 t332)).setCell ⟨gb338, 1, none⟩ (.int .i64 t333)).setCell ⟨gb338, 2, none⟩ (.slice Ao117 t334.length co117)).heap[gb338]? = some (.cells #[.int .i64 t332, .int .i64 t333, .slice Ao117 t334.length co117] 24 (0, 0))) := ⟨by (with_reducible repeat (first | apply c' | apply f' | apply d')); refine blk_put (cs := #[.int .i64 t332, .int .i64 t333, .slice none 0 0]) ?_ 2 _ rfl; (with_reducible repeat (first | apply c' | apply f' | apply d')); refine blk_put (cs := #[.int .i64 t332, .int .i64 0, .slice none 0 0]) ?_ 1 _ rfl; (with_reducible repeat (first | apply c' | apply f' | apply d')); refine blk_put (cs := #[.int .i64 0, .int .i64 0, .slice none 0 0]) ?_ 0 _ rfl; (with_reducible repeat (first | apply c' | apply f' | apply d')); exact BK338.out⟩
  have n22_ : Aside0 (Below w.heap.size w (((w108.setCell ⟨gb338, 0, none⟩ (.int .i64 t332)).setCell ⟨gb338, 1, none⟩ (.int .i64 t333)).setCell ⟨gb338, 2, none⟩ (.slice Ao117 t334.length co117))) := ⟨by repeat (first | (with_reducible first | exact HB.out | apply s' | apply p' | apply r' | refine e' ?_ GE265.out | refine e' ?_ GE277.out | refine e' ?_ GE292.out | refine e' ?_ GE302.out | refine e' ?_ GE310.out | refine e' ?_ GE324.out | refine e' ?_ GE331.out | refine e' ?_ GE338.out) | exact HB.out)⟩
  (try clear HO270)
  (try clear HO273)
  (try clear HO276)
  (try clear HO280)
  (try clear HO284)
  (try clear HO290)
  (try clear HO295)
  (try clear HO300)
  (try clear HO307)
  (try clear HO313)
  (try clear HO316)
  (try clear HO321)
  (try clear HO329)
  (try clear HO336)
  (try clear BK265)
  (try clear BK277)
  (try clear BK292)
  (try clear BK302)
  (try clear BK310)
  (try clear BK324)
  (try clear BK331)
  (try clear BK338)
  (try clear HB)
  generalize (((w108.setCell ⟨gb338, 0, none⟩ (.int .i64 t332)).setCell ⟨gb338, 1, none⟩ (.int .i64 t333)).setCell ⟨gb338, 2, none⟩ (.slice Ao117 t334.length co117)) = w118 at n0_ n1_ n2_ n3_ n4_ n5_ n6_ n7_ n8_ n9_ n10_ n11_ n12_ n13_ n14_ n15_ n16_ n17_ n18_ n19_ n20_ n21_ n22_ ⊢
  have HO270 := n0_
  have HO273 := n1_
  have HO276 := n2_
  have HO280 := n3_
  have HO284 := n4_
  have HO290 := n5_
  have HO295 := n6_
  have HO300 := n7_
  have HO307 := n8_
  have HO313 := n9_
  have HO316 := n10_
  have HO321 := n11_
  have HO329 := n12_
  have HO336 := n13_
  have BK265 := n14_
  have BK277 := n15_
  have BK292 := n16_
  have BK302 := n17_
  have BK310 := n18_
  have BK324 := n19_
  have BK331 := n20_
  have BK338 := n21_
  have HB := n22_
  clear n0_ n1_ n2_ n3_ n4_ n5_ n6_ n7_ n8_ n9_ n10_ n11_ n12_ n13_ n14_ n15_ n16_ n17_ n18_ n19_ n20_ n21_ n22_
  have n0_ := cg' (j' HO270.out)
  have n1_ := cg' (q' HO273.out)
  have n2_ := cg' (q' HO276.out)
  have n3_ := cg' (j' HO280.out)
  have n4_ := cg' (j' HO284.out)
  have n5_ := cg' (j' HO290.out)
  have n6_ := cg' (q' HO295.out)
  have n7_ := cg' (j' HO300.out)
  have n8_ := cg' (j' HO307.out)
  have n9_ := cg' (q' HO313.out)
  have n10_ := cg' (q' HO316.out)
  have n11_ := cg' (j' HO321.out)
  have n12_ := cg' (j' HO329.out)
  have n13_ := cg' (j' HO336.out)
  have n14_ := cg' (f' BK265.out)
  have n15_ := cg' (f' BK277.out)
  have n16_ := cg' (f' BK292.out)
  have n17_ := cg' (f' BK302.out)
  have n18_ := cg' (f' BK310.out)
  have n19_ := cg' (f' BK324.out)
  have n20_ := cg' (f' BK331.out)
  have n21_ := cg' (f' BK338.out)
  have n22_ := cg' (r' HB.out)
  clear HO270
  clear HO273
  clear HO276
  clear HO280
  clear HO284
  clear HO290
  clear HO295
  clear HO300
  clear HO307
  clear HO313
  clear HO316
  clear HO321
  clear HO329
  clear HO336
  clear BK265
  clear BK277
  clear BK292
  clear BK302
  clear BK310
  clear BK324
  clear BK331
  clear BK338
  clear HB
  have HO270 := n0_
  have HO273 := n1_
  have HO276 := n2_
  have HO280 := n3_
  have HO284 := n4_
  have HO290 := n5_
  have HO295 := n6_
  have HO300 := n7_
  have HO307 := n8_
  have HO313 := n9_
  have HO316 := n10_
  have HO321 := n11_
  have HO329 := n12_
  have HO336 := n13_
  have BK265 := n14_
  have BK277 := n15_
  have BK292 := n16_
  have BK302 := n17_
  have BK310 := n18_
  have BK324 := n19_
  have BK331 := n20_
  have BK338 := n21_
  have HB := n22_
  clear n0_ n1_ n2_ n3_ n4_ n5_ n6_ n7_ n8_ n9_ n10_ n11_ n12_ n13_ n14_ n15_ n16_ n17_ n18_ n19_ n20_ n21_ n22_
  obtain ⟨Ao120, co120, eo120⟩ := Kd.R_slice HO280.out
  (first | subst eo120 | (injection eo120 with f1_ f2_ f3_; have f4_ := f1_.symm; have f5_ := f3_.symm; clear f1_ f2_ f3_; subst f4_; subst f5_))
  obtain ⟨Ao121, co121, eo121⟩ := Kd.R_slice HO284.out
  (first | subst eo121 | (injection eo121 with f1_ f2_ f3_; have f4_ := f1_.symm; have f5_ := f3_.symm; clear f1_ f2_ f3_; subst f4_; subst f5_))
  refine start_ (n := 70) (S := fun w' => w'.cell? ⟨gb292, 0, none⟩ = some (.int .i64 t286) ∧ w'.cell? ⟨gb292, 1, none⟩ = some (.int .i64 t287) ∧ w'.cell? ⟨gb292, 2, none⟩ = some (.slice Ao63 t288.length co63) ∧ w'.cell? ⟨gb302, 0, none⟩ = some (.int .i64 t296) ∧ w'.cell? ⟨gb302, 1, none⟩ = some (.int .i64 t297) ∧ w'.cell? ⟨gb302, 2, none⟩ = some (.slice Ao73 t298.length co73) ∧ w'.cell? ⟨gb310, 0, none⟩ = some (.int .i64 t303) ∧ w'.cell? ⟨gb310, 1, none⟩ = some (.int .i64 t304) ∧ w'.cell? ⟨gb310, 2, none⟩ = some (.slice Ao82 t305.length co82) ∧ w'.cell? ⟨gb324, 0, none⟩ = some (.int .i64 t317) ∧ w'.cell? ⟨gb324, 1, none⟩ = some (.int .i64 t318) ∧ w'.cell? ⟨gb324, 2, none⟩ = some (.slice Ao96 t319.length co96) ∧ w'.cell? ⟨gb331, 0, none⟩ = some (.int .i64 t325) ∧ w'.cell? ⟨gb331, 1, none⟩ = some (.int .i64 t326) ∧ w'.cell? ⟨gb331, 2, none⟩ = some (.slice Ao106 t327.length co106) ∧ w'.cell? ⟨gb338, 0, none⟩ = some (.int .i64 t332) ∧ w'.cell? ⟨gb338, 1, none⟩ = some (.int .i64 t333) ∧ w'.cell? ⟨gb338, 2, none⟩ = some (.slice Ao117 t334.length co117) ∧ w'.cell? ⟨gb277, 0, none⟩ = some (.int .i64 t266) ∧ w'.cell? ⟨gb277, 1, none⟩ = some (.int .i64 t267) ∧ w'.cell? ⟨gb277, 2, none⟩ = some (.slice Ao53 t268.length co53) ∧ w'.cell? ⟨gb265, 0, none⟩ = some (.int .i64 a0_0) ∧ w'.cell? ⟨gb265, 1, none⟩ = some (.int .i64 a0_1) ∧ w'.cell? ⟨gb265, 2, none⟩ = some (.slice A0_2 l0_2.length c0_2)) (ds := []) #[Z,Z,Z,Z,Z,Z,Z,Z,Z,Z,Z,Z,Z,Z,Z,Z,Z,Z,Z,Z,Z,Z,Z,Z,Z,Z,Z,Z,Z,Z,Z,Z,Z,Z,Z,Z,Z,Z,Z,Z,Z,Z,Z,Z,Z,Z,Z,Z,Z,Z,Z,Z,Z,Z,Z,Z,Z,Z,Z,Z,Z,Z,Z,Z,Z,Z,Z,Z,Z,Z] (by kernel_rfl) rfl rfl ⟨(b' BK292.out 0).trans rfl, (b' BK292.out 1).trans rfl, (b' BK292.out 2).trans rfl, (b' BK302.out 0).trans rfl, (b' BK302.out 1).trans rfl, (b' BK302.out 2).trans rfl, (b' BK310.out 0).trans rfl, (b' BK310.out 1).trans rfl, (b' BK310.out 2).trans rfl, (b' BK324.out 0).trans rfl, (b' BK324.out 1).trans rfl, (b' BK324.out 2).trans rfl, (b' BK331.out 0).trans rfl, (b' BK331.out 1).trans rfl, (b' BK331.out 2).trans rfl, (b' BK338.out 0).trans rfl, (b' BK338.out 1).trans rfl, (b' BK338.out 2).trans rfl, (b' BK277.out 0).trans rfl, (b' BK277.out 1).trans rfl, (b' BK277.out 2).trans rfl, (b' BK265.out 0).trans rfl, (b' BK265.out 1).trans rfl, (b' BK265.out 2).trans rfl⟩ (fun hHeld => ?_); refine with_tabW fanlightlaw07_SnapTells.tab10 fanlightlaw07_SnapTells.bits10 (fun HT_ HW_ => ?_)
  generalize w118.drew = w119 at HO270 HO273 HO276 HO280 HO284 HO290 HO295 HO300 HO307 HO313 HO316 HO321 HO329 HO336 BK265 BK277 BK292 BK302 BK310 BK324 BK331 BK338 HB hHeld ⊢
  refine pure_ (i := 0) (N := some 81) (v := ?_) (a' := ?_) #[Y,Z,Z,Z,Z,Z,Z,Z,Z,Z,Z,Z,Z,Z,Z,Z,Z,Z,Z,Z,Z,Z,Z,Z,Z,Z,Z,Z,Z,Z,Z,Z,Z,Z,Z,Z,Z,Z,Z,Z,Z,Z,Z,Z,Z,Z,Z,Z,Z,Z,Z,Z,Z,Z,Z,Z,Z,Z,Z,Z,Z,Z,Z,Z,Z,Z,Z,Z,Z,Z] rfl rfl (any_of HT_.out (by kernel_rfl)) (fun _ _ _ h => h) (Or.inl ⟨by rfl, ?_⟩) ?_ ?_
  rotate_left
  · intro w'
    go_simp
    with_reducible rfl
  rotate_left
  · simp only [Act.put, bg', bh', ca', i64_w, i32_w]
    rfl
  refine pure_ (i := 1) (N := some 82) (v := ?_) (a' := ?_) #[Y,Y,Z,Z,Z,Z,Z,Z,Z,Z,Z,Z,Z,Z,Z,Z,Z,Z,Z,Z,Z,Z,Z,Z,Z,Z,Z,Z,Z,Z,Z,Z,Z,Z,Z,Z,Z,Z,Z,Z,Z,Z,Z,Z,Z,Z,Z,Z,Z,Z,Z,Z,Z,Z,Z,Z,Z,Z,Z,Z,Z,Z,Z,Z,Z,Z,Z,Z,Z,Z] rfl rfl (any_of HT_.out (by kernel_rfl)) (fun _ _ _ h => h) (Or.inl ⟨by rfl, ?_⟩) ?_ ?_
  rotate_left
  · intro w'
    go_simp
    with_reducible rfl
  rotate_left
  · simp only [Act.put, bg', bh', ca', i64_w, i32_w]
    rfl
  refine one_ (i := 2) (N := some 83) #[Y,Y,Y,Z,Z,Z,Z,Z,Z,Z,Z,Z,Z,Z,Z,Z,Z,Z,Z,Z,Z,Z,Z,Z,Z,Z,Z,Z,Z,Z,Z,Z,Z,Z,Z,Z,Z,Z,Z,Z,Z,Z,Z,Z,Z,Z,Z,Z,Z,Z,Z,Z,Z,Z,Z,Z,Z,Z,Z,Z,Z,Z,Z,Z,Z,Z,Z,Z,Z,Z] rfl rfl (one_of HT_.out (by kernel_rfl)) (by decide) (fun K hK => ?_)
  refine goes_ Try.func21 (by kernel_rfl) rfl #[.slice Ao120 t278.length co120, .slice Ao121 t282.length co121] (by rfl) rfl rfl (by (try simp only [cb', cc', cd']); first | done | rfl | (simp only [ce', cf']; rfl)) ?_
  with_reducible refine (fanlightplain_SameBytes.calls _ _ t278 _ _ t282 true _ ?side1 ?side2 ?side3 ?side4 A18.out).mono ?_
  (case side1 => repeat (first | exact (bb' HO280.out).2.2 | (with_reducible refine bf' ?_ _) | (with_reducible refine be' ?_ _) | (with_reducible refine Kd.C_drew ?_)))
  (case side2 => exact (bb' HO280.out).2.1)
  (case side3 => repeat (first | exact (bb' HO284.out).2.2 | (with_reducible refine bf' ?_ _) | (with_reducible refine be' ?_ _) | (with_reducible refine Kd.C_drew ?_)))
  (case side4 => exact (bb' HO284.out).2.1)
  rintro e w' ⟨rfl, ⟨nd, rfl⟩⟩
  refine ⟨_, rfl, ?_⟩
  refine hK.out _ _ ⟨(b' BK292.out 0).trans rfl, (b' BK292.out 1).trans rfl, (b' BK292.out 2).trans rfl, (b' BK302.out 0).trans rfl, (b' BK302.out 1).trans rfl, (b' BK302.out 2).trans rfl, (b' BK310.out 0).trans rfl, (b' BK310.out 1).trans rfl, (b' BK310.out 2).trans rfl, (b' BK324.out 0).trans rfl, (b' BK324.out 1).trans rfl, (b' BK324.out 2).trans rfl, (b' BK331.out 0).trans rfl, (b' BK331.out 1).trans rfl, (b' BK331.out 2).trans rfl, (b' BK338.out 0).trans rfl, (b' BK338.out 1).trans rfl, (b' BK338.out 2).trans rfl, (b' BK277.out 0).trans rfl, (b' BK277.out 1).trans rfl, (b' BK277.out 2).trans rfl, (b' BK265.out 0).trans rfl, (b' BK265.out 1).trans rfl, (b' BK265.out 2).trans rfl⟩ (fun hHeld => ?_)
  clear hK K
  refine norm_ (a' := ?_) ?_ ?_
  rotate_left
  · show Act.put _ (some 83) _ = _
    simp only [Act.put, bg', bh', ca', i64_w, i32_w]
    rfl
  refine pure_ (i := 3) (N := some 84) (v := ?_) (a' := ?_) #[Y,Y,Y,Y,Z,Z,Z,Z,Z,Z,Z,Z,Z,Z,Z,Z,Z,Z,Z,Z,Z,Z,Z,Z,Z,Z,Z,Z,Z,Z,Z,Z,Z,Z,Z,Z,Z,Z,Z,Z,Z,Z,Z,Z,Z,Z,Z,Z,Z,Z,Z,Z,Z,Z,Z,Z,Z,Z,Z,Z,Z,Z,Z,Z,Z,Z,Z,Z,Z,Z] rfl rfl (any_of HT_.out (by kernel_rfl)) (fun _ _ _ h => h) (Or.inl ⟨by rfl, ?_⟩) ?_ ?_
  rotate_left
  · intro w'
    go_simp
    with_reducible rfl
  rotate_left
  · simp only [Act.put, bg', bh', ca', i64_w, i32_w]
    rfl
  refine pure_ (i := 4) (N := some 85) (v := ?_) (a' := ?_) #[Y,Y,Y,Y,Y,Z,Z,Z,Z,Z,Z,Z,Z,Z,Z,Z,Z,Z,Z,Z,Z,Z,Z,Z,Z,Z,Z,Z,Z,Z,Z,Z,Z,Z,Z,Z,Z,Z,Z,Z,Z,Z,Z,Z,Z,Z,Z,Z,Z,Z,Z,Z,Z,Z,Z,Z,Z,Z,Z,Z,Z,Z,Z,Z,Z,Z,Z,Z,Z,Z] rfl rfl (any_of HT_.out (by kernel_rfl)) (fun _ _ _ h => h) (Or.inl ⟨by rfl, ?_⟩) ?_ ?_
  rotate_left
  · intro w'
    go_simp
    with_reducible rfl
  rotate_left
  · simp only [Act.put, bg', bh', ca', i64_w, i32_w]
    rfl
  refine pure_ (i := 6) (N := some 87) (v := ?_) (a' := ?_) #[Y,Y,Y,Y,Y,Z,Y,Z,Z,Z,Z,Z,Z,Z,Z,Z,Z,Z,Z,Z,Z,Z,Z,Z,Z,Z,Z,Z,Z,Z,Z,Z,Z,Z,Z,Z,Z,Z,Z,Z,Z,Z,Z,Z,Z,Z,Z,Z,Z,Z,Z,Z,Z,Z,Z,Z,Z,Z,Z,Z,Z,Z,Z,Z,Z,Z,Z,Z,Z,Z] rfl rfl (any_of HT_.out (by kernel_rfl)) (fun _ _ _ h => h) (Or.inl ⟨by rfl, ?_⟩) ?_ ?_
  rotate_left
  · intro w'
    go_simp
    with_reducible rfl
  rotate_left
  · simp only [Act.put, bg', bh', ca', i64_w, i32_w]
    rfl
  refine one_ (i := 5) (N := some 86) #[Y,Y,Y,Y,Y,Y,Y,Z,Z,Z,Z,Z,Z,Z,Z,Z,Z,Z,Z,Z,Z,Z,Z,Z,Z,Z,Z,Z,Z,Z,Z,Z,Z,Z,Z,Z,Z,Z,Z,Z,Z,Z,Z,Z,Z,Z,Z,Z,Z,Z,Z,Z,Z,Z,Z,Z,Z,Z,Z,Z,Z,Z,Z,Z,Z,Z,Z,Z,Z,Z] rfl rfl (one_of HT_.out (by kernel_rfl)) (by decide) (fun K hK => ?_)
  refine goes_ Try.func22 (by kernel_rfl) rfl #[.int .i64 t281] (by rfl) rfl rfl (by (try simp only [cb', cc', cd']); first | done | rfl | (simp only [ce', cf']; rfl)) ?_
  with_reducible refine (fanlightlaw07_num.calls t281 t340 _ A20.out).mono ?_
  rintro e w' ⟨rfl, ⟨nd, rfl⟩⟩
  refine ⟨_, rfl, ?_⟩
  refine hK.out _ _ ⟨(b' BK292.out 0).trans rfl, (b' BK292.out 1).trans rfl, (b' BK292.out 2).trans rfl, (b' BK302.out 0).trans rfl, (b' BK302.out 1).trans rfl, (b' BK302.out 2).trans rfl, (b' BK310.out 0).trans rfl, (b' BK310.out 1).trans rfl, (b' BK310.out 2).trans rfl, (b' BK324.out 0).trans rfl, (b' BK324.out 1).trans rfl, (b' BK324.out 2).trans rfl, (b' BK331.out 0).trans rfl, (b' BK331.out 1).trans rfl, (b' BK331.out 2).trans rfl, (b' BK338.out 0).trans rfl, (b' BK338.out 1).trans rfl, (b' BK338.out 2).trans rfl, (b' BK277.out 0).trans rfl, (b' BK277.out 1).trans rfl, (b' BK277.out 2).trans rfl, (b' BK265.out 0).trans rfl, (b' BK265.out 1).trans rfl, (b' BK265.out 2).trans rfl⟩ (fun hHeld => ?_)
  clear hK K
  refine norm_ (a' := ?_) ?_ ?_
  rotate_left
  · show Act.put _ (some 86) _ = _
    simp only [Act.put, bg', bh', ca', i64_w, i32_w]
    rfl
  refine pure_ (i := 7) (N := some 88) (v := ?_) (a' := ?_) #[Y,Y,Y,Y,Y,Y,Y,Y,Z,Z,Z,Z,Z,Z,Z,Z,Z,Z,Z,Z,Z,Z,Z,Z,Z,Z,Z,Z,Z,Z,Z,Z,Z,Z,Z,Z,Z,Z,Z,Z,Z,Z,Z,Z,Z,Z,Z,Z,Z,Z,Z,Z,Z,Z,Z,Z,Z,Z,Z,Z,Z,Z,Z,Z,Z,Z,Z,Z,Z,Z] rfl rfl (any_of HT_.out (by kernel_rfl)) (fun _ _ _ h => h) (Or.inl ⟨by rfl, ?_⟩) ?_ ?_
  rotate_left
  · intro w'
    go_simp
    with_reducible rfl
  rotate_left
  · simp only [Act.put, bg', bh', ca', i64_w, i32_w]
    rfl
  refine pure_ (i := 8) (N := some 89) (v := ?_) (a' := ?_) #[Y,Y,Y,Y,Y,Y,Y,Y,Y,Z,Z,Z,Z,Z,Z,Z,Z,Z,Z,Z,Z,Z,Z,Z,Z,Z,Z,Z,Z,Z,Z,Z,Z,Z,Z,Z,Z,Z,Z,Z,Z,Z,Z,Z,Z,Z,Z,Z,Z,Z,Z,Z,Z,Z,Z,Z,Z,Z,Z,Z,Z,Z,Z,Z,Z,Z,Z,Z,Z,Z] rfl rfl (any_of HT_.out (by kernel_rfl)) (fun _ _ _ h => h) (Or.inl ⟨by rfl, ?_⟩) ?_ ?_
  rotate_left
  · intro w'
    go_simp
    with_reducible rfl
  rotate_left
  · simp only [Act.put, bg', bh', ca', i64_w, i32_w]
    rfl
  refine pure_ (i := 9) (N := some 90) (v := ?_) (a' := ?_) #[Y,Y,Y,Y,Y,Y,Y,Y,Y,Y,Z,Z,Z,Z,Z,Z,Z,Z,Z,Z,Z,Z,Z,Z,Z,Z,Z,Z,Z,Z,Z,Z,Z,Z,Z,Z,Z,Z,Z,Z,Z,Z,Z,Z,Z,Z,Z,Z,Z,Z,Z,Z,Z,Z,Z,Z,Z,Z,Z,Z,Z,Z,Z,Z,Z,Z,Z,Z,Z,Z] rfl rfl (any_of HT_.out (by kernel_rfl)) (fun _ _ _ h => h) (Or.inl ⟨by rfl, ?_⟩) ?_ ?_
  rotate_left
  · intro w'
    go_simp
    with_reducible rfl
  rotate_left
  · simp only [Act.put, bg', bh', ca', i64_w, i32_w]
    rfl
  refine take_ (i := 10) (N := some 91) (v := ?_) (a' := ?_) #[Y,Y,Y,Y,Y,Y,Y,Y,Y,Y,Y,Z,Z,Z,Z,Z,Z,Z,Z,Z,Z,Z,Z,Z,Z,Z,Z,Z,Z,Z,Z,Z,Z,Z,Z,Z,Z,Z,Z,Z,Z,Z,Z,Z,Z,Z,Z,Z,Z,Z,Z,Z,Z,Z,Z,Z,Z,Z,Z,Z,Z,Z,Z,Z,Z,Z,Z,Z,Z,Z] rfl rfl (take_ofW HT_.out HW_.out (by kernel_rfl)) (fun _ _ _ h => h) (Or.inl ⟨by rfl, ?_⟩) hHeld ?_ ?_
  rotate_left
  · rintro w' ⟨s0, s1, s2, s3, s4, s5, s6, s7, s8, s9, s10, s11, s12, s13, s14, s15, s16, s17, s18, s19, s20, s21, s22, s23⟩
    go_simp
    with_reducible rfl
  rotate_left
  · simp only [Act.put, bg', bh', ca', i64_w, i32_w]
    rfl
  refine take_ (i := 11) (N := some 92) (v := ?_) (a' := ?_) #[Y,Y,Y,Y,Y,Y,Y,Y,Y,Y,Y,Y,Z,Z,Z,Z,Z,Z,Z,Z,Z,Z,Z,Z,Z,Z,Z,Z,Z,Z,Z,Z,Z,Z,Z,Z,Z,Z,Z,Z,Z,Z,Z,Z,Z,Z,Z,Z,Z,Z,Z,Z,Z,Z,Z,Z,Z,Z,Z,Z,Z,Z,Z,Z,Z,Z,Z,Z,Z,Z] rfl rfl (take_ofW HT_.out HW_.out (by kernel_rfl)) (fun _ _ _ h => h) (Or.inl ⟨by rfl, ?_⟩) hHeld ?_ ?_
  rotate_left
  · rintro w' ⟨s0, s1, s2, s3, s4, s5, s6, s7, s8, s9, s10, s11, s12, s13, s14, s15, s16, s17, s18, s19, s20, s21, s22, s23⟩
    go_simp
    with_reducible rfl
  rotate_left
  · simp only [Act.put, bg', bh', ca', i64_w, i32_w]
    rfl
  refine one_ (i := 12) (N := some 93) #[Y,Y,Y,Y,Y,Y,Y,Y,Y,Y,Y,Y,Y,Z,Z,Z,Z,Z,Z,Z,Z,Z,Z,Z,Z,Z,Z,Z,Z,Z,Z,Z,Z,Z,Z,Z,Z,Z,Z,Z,Z,Z,Z,Z,Z,Z,Z,Z,Z,Z,Z,Z,Z,Z,Z,Z,Z,Z,Z,Z,Z,Z,Z,Z,Z,Z,Z,Z,Z,Z] rfl rfl (one_of HT_.out (by kernel_rfl)) (by decide) (fun K hK => ?_)
  refine goes_ Try.func23 (by kernel_rfl) rfl #[.agg #[.int .i64 t286, .int .i64 t287, .slice Ao63 t288.length co63], .agg #[.int .i64 t296, .int .i64 t297, .slice Ao73 t298.length co73]] (by rfl) rfl rfl (by (try simp only [cb', cc', cd']); first | done | rfl | (simp only [ce', cf']; rfl)) ?_
  with_reducible refine (fanlightlaw07_same.calls t286 t287 _ _ t288 t296 t297 _ _ t298 true _ ?side1 ?side2 ?side3 ?side4 A22.out).mono ?_
  (case side1 => repeat (first | exact (bb' HO290.out).2.2 | (with_reducible refine bf' ?_ _) | (with_reducible refine be' ?_ _) | (with_reducible refine Kd.C_drew ?_)))
  (case side2 => exact (bb' HO290.out).2.1)
  (case side3 => repeat (first | exact (bb' HO300.out).2.2 | (with_reducible refine bf' ?_ _) | (with_reducible refine be' ?_ _) | (with_reducible refine Kd.C_drew ?_)))
  (case side4 => exact (bb' HO300.out).2.1)
  rintro e w122 ⟨rfl, hb⟩
  refine ⟨_, rfl, ?_⟩
  have n0_ := cg' (l' (by (with_reducible repeat (first | apply h' | apply g' | apply j')); exact HO270.out) hb)
  have n1_ := cg' (v' (by (with_reducible repeat (first | apply o' | apply n' | apply q')); exact HO273.out) hb)
  have n2_ := cg' (v' (by (with_reducible repeat (first | apply o' | apply n' | apply q')); exact HO276.out) hb)
  have n3_ := cg' (l' (by (with_reducible repeat (first | apply h' | apply g' | apply j')); exact HO280.out) hb)
  have n4_ := cg' (l' (by (with_reducible repeat (first | apply h' | apply g' | apply j')); exact HO284.out) hb)
  have n5_ := cg' (l' (by (with_reducible repeat (first | apply h' | apply g' | apply j')); exact HO290.out) hb)
  have n6_ := cg' (v' (by (with_reducible repeat (first | apply o' | apply n' | apply q')); exact HO295.out) hb)
  have n7_ := cg' (l' (by (with_reducible repeat (first | apply h' | apply g' | apply j')); exact HO300.out) hb)
  have n8_ := cg' (l' (by (with_reducible repeat (first | apply h' | apply g' | apply j')); exact HO307.out) hb)
  have n9_ := cg' (v' (by (with_reducible repeat (first | apply o' | apply n' | apply q')); exact HO313.out) hb)
  have n10_ := cg' (v' (by (with_reducible repeat (first | apply o' | apply n' | apply q')); exact HO316.out) hb)
  have n11_ := cg' (l' (by (with_reducible repeat (first | apply h' | apply g' | apply j')); exact HO321.out) hb)
  have n12_ := cg' (l' (by (with_reducible repeat (first | apply h' | apply g' | apply j')); exact HO329.out) hb)
  have n13_ := cg' (l' (by (with_reducible repeat (first | apply h' | apply g' | apply j')); exact HO336.out) hb)
  have n14_ := cg' (m' (g := gb265) (o := .cells #[.int .i64 a0_0, .int .i64 a0_1, .slice A0_2 l0_2.length c0_2] 24 (0, 0)) (by (with_reducible repeat (first | apply c' | apply f' | apply d')); exact BK265.out) hb)
  have n15_ := cg' (m' (g := gb277) (o := .cells #[.int .i64 t266, .int .i64 t267, .slice Ao53 t268.length co53] 25 (0, 0)) (by (with_reducible repeat (first | apply c' | apply f' | apply d')); exact BK277.out) hb)
  have n16_ := cg' (m' (g := gb292) (o := .cells #[.int .i64 t286, .int .i64 t287, .slice Ao63 t288.length co63] 25 (0, 0)) (by (with_reducible repeat (first | apply c' | apply f' | apply d')); exact BK292.out) hb)
  have n17_ := cg' (m' (g := gb302) (o := .cells #[.int .i64 t296, .int .i64 t297, .slice Ao73 t298.length co73] 24 (0, 0)) (by (with_reducible repeat (first | apply c' | apply f' | apply d')); exact BK302.out) hb)
  have n18_ := cg' (m' (g := gb310) (o := .cells #[.int .i64 t303, .int .i64 t304, .slice Ao82 t305.length co82] 25 (0, 0)) (by (with_reducible repeat (first | apply c' | apply f' | apply d')); exact BK310.out) hb)
  have n19_ := cg' (m' (g := gb324) (o := .cells #[.int .i64 t317, .int .i64 t318, .slice Ao96 t319.length co96] 24 (0, 0)) (by (with_reducible repeat (first | apply c' | apply f' | apply d')); exact BK324.out) hb)
  have n20_ := cg' (m' (g := gb331) (o := .cells #[.int .i64 t325, .int .i64 t326, .slice Ao106 t327.length co106] 25 (0, 0)) (by (with_reducible repeat (first | apply c' | apply f' | apply d')); exact BK331.out) hb)
  have n21_ := cg' (m' (g := gb338) (o := .cells #[.int .i64 t332, .int .i64 t333, .slice Ao117 t334.length co117] 24 (0, 0)) (by (with_reducible repeat (first | apply c' | apply f' | apply d')); exact BK338.out) hb)
  have n22_ := cg' (ah' (by repeat (first | (with_reducible first | exact HB.out | apply s' | apply p' | apply r' | refine e' ?_ GE265.out | refine e' ?_ GE277.out | refine e' ?_ GE292.out | refine e' ?_ GE302.out | refine e' ?_ GE310.out | refine e' ?_ GE324.out | refine e' ?_ GE331.out | refine e' ?_ GE338.out) | exact HB.out)) hb)
  clear HO270
  clear HO273
  clear HO276
  clear HO280
  clear HO284
  clear HO290
  clear HO295
  clear HO300
  clear HO307
  clear HO313
  clear HO316
  clear HO321
  clear HO329
  clear HO336
  clear BK265
  clear BK277
  clear BK292
  clear BK302
  clear BK310
  clear BK324
  clear BK331
  clear BK338
  clear HB
  have HO270 := n0_
  have HO273 := n1_
  have HO276 := n2_
  have HO280 := n3_
  have HO284 := n4_
  have HO290 := n5_
  have HO295 := n6_
  have HO300 := n7_
  have HO307 := n8_
  have HO313 := n9_
  have HO316 := n10_
  have HO321 := n11_
  have HO329 := n12_
  have HO336 := n13_
  have BK265 := n14_
  have BK277 := n15_
  have BK292 := n16_
  have BK302 := n17_
  have BK310 := n18_
  have BK324 := n19_
  have BK331 := n20_
  have BK338 := n21_
  have HB := n22_
  clear n0_ n1_ n2_ n3_ n4_ n5_ n6_ n7_ n8_ n9_ n10_ n11_ n12_ n13_ n14_ n15_ n16_ n17_ n18_ n19_ n20_ n21_ n22_
  (try clear hb)
  (try clear hb2)
  (try clear hk)
  (try clear hi)
  refine hK.out _ _ ⟨(b' BK292.out 0).trans rfl, (b' BK292.out 1).trans rfl, (b' BK292.out 2).trans rfl, (b' BK302.out 0).trans rfl, (b' BK302.out 1).trans rfl, (b' BK302.out 2).trans rfl, (b' BK310.out 0).trans rfl, (b' BK310.out 1).trans rfl, (b' BK310.out 2).trans rfl, (b' BK324.out 0).trans rfl, (b' BK324.out 1).trans rfl, (b' BK324.out 2).trans rfl, (b' BK331.out 0).trans rfl, (b' BK331.out 1).trans rfl, (b' BK331.out 2).trans rfl, (b' BK338.out 0).trans rfl, (b' BK338.out 1).trans rfl, (b' BK338.out 2).trans rfl, (b' BK277.out 0).trans rfl, (b' BK277.out 1).trans rfl, (b' BK277.out 2).trans rfl, (b' BK265.out 0).trans rfl, (b' BK265.out 1).trans rfl, (b' BK265.out 2).trans rfl⟩ (fun hHeld => ?_)
  clear hK K
  refine norm_ (a' := ?_) ?_ ?_
  rotate_left
  · show Act.put _ (some 93) _ = _
    simp only [Act.put, bg', bh', ca', i64_w, i32_w]
    rfl
  refine pure_ (i := 13) (N := some 94) (v := ?_) (a' := ?_) #[Y,Y,Y,Y,Y,Y,Y,Y,Y,Y,Y,Y,Y,Y,Z,Z,Z,Z,Z,Z,Z,Z,Z,Z,Z,Z,Z,Z,Z,Z,Z,Z,Z,Z,Z,Z,Z,Z,Z,Z,Z,Z,Z,Z,Z,Z,Z,Z,Z,Z,Z,Z,Z,Z,Z,Z,Z,Z,Z,Z,Z,Z,Z,Z,Z,Z,Z,Z,Z,Z] rfl rfl (any_of HT_.out (by kernel_rfl)) (fun _ _ _ h => h) (Or.inl ⟨by rfl, ?_⟩) ?_ ?_
  rotate_left
  · intro w'
    go_simp
    with_reducible rfl
  rotate_left
  · simp only [Act.put, bg', bh', ca', i64_w, i32_w]
    rfl
  refine pure_ (i := 14) (N := some 95) (v := ?_) (a' := ?_) #[Y,Y,Y,Y,Y,Y,Y,Y,Y,Y,Y,Y,Y,Y,Y,Z,Z,Z,Z,Z,Z,Z,Z,Z,Z,Z,Z,Z,Z,Z,Z,Z,Z,Z,Z,Z,Z,Z,Z,Z,Z,Z,Z,Z,Z,Z,Z,Z,Z,Z,Z,Z,Z,Z,Z,Z,Z,Z,Z,Z,Z,Z,Z,Z,Z,Z,Z,Z,Z,Z] rfl rfl (any_of HT_.out (by kernel_rfl)) (fun _ _ _ h => h) (Or.inl ⟨by rfl, ?_⟩) ?_ ?_
  rotate_left
  · intro w'
    go_simp
    with_reducible rfl
  rotate_left
  · simp only [Act.put, bg', bh', ca', i64_w, i32_w]
    rfl
  refine pure_ (i := 15) (N := some 96) (v := ?_) (a' := ?_) #[Y,Y,Y,Y,Y,Y,Y,Y,Y,Y,Y,Y,Y,Y,Y,Y,Z,Z,Z,Z,Z,Z,Z,Z,Z,Z,Z,Z,Z,Z,Z,Z,Z,Z,Z,Z,Z,Z,Z,Z,Z,Z,Z,Z,Z,Z,Z,Z,Z,Z,Z,Z,Z,Z,Z,Z,Z,Z,Z,Z,Z,Z,Z,Z,Z,Z,Z,Z,Z,Z] rfl rfl (any_of HT_.out (by kernel_rfl)) (fun _ _ _ h => h) (Or.inl ⟨by rfl, ?_⟩) ?_ ?_
  rotate_left
  · intro w'
    go_simp
    with_reducible rfl
  rotate_left
  · simp only [Act.put, bg', bh', ca', i64_w, i32_w]
    rfl
  refine pure_ (i := 17) (N := some 98) (v := ?_) (a' := ?_) #[Y,Y,Y,Y,Y,Y,Y,Y,Y,Y,Y,Y,Y,Y,Y,Y,Z,Y,Z,Z,Z,Z,Z,Z,Z,Z,Z,Z,Z,Z,Z,Z,Z,Z,Z,Z,Z,Z,Z,Z,Z,Z,Z,Z,Z,Z,Z,Z,Z,Z,Z,Z,Z,Z,Z,Z,Z,Z,Z,Z,Z,Z,Z,Z,Z,Z,Z,Z,Z,Z] rfl rfl (any_of HT_.out (by kernel_rfl)) (fun _ _ _ h => h) (Or.inl ⟨by rfl, ?_⟩) ?_ ?_
  rotate_left
  · intro w'
    go_simp
    with_reducible rfl
  rotate_left
  · simp only [Act.put, bg', bh', ca', i64_w, i32_w]
    rfl
  refine one_ (i := 16) (N := some 97) #[Y,Y,Y,Y,Y,Y,Y,Y,Y,Y,Y,Y,Y,Y,Y,Y,Y,Y,Z,Z,Z,Z,Z,Z,Z,Z,Z,Z,Z,Z,Z,Z,Z,Z,Z,Z,Z,Z,Z,Z,Z,Z,Z,Z,Z,Z,Z,Z,Z,Z,Z,Z,Z,Z,Z,Z,Z,Z,Z,Z,Z,Z,Z,Z,Z,Z,Z,Z,Z,Z] rfl rfl (one_of HT_.out (by kernel_rfl)) (by decide) (fun K hK => ?_)
  refine goes_ Try.func22 (by kernel_rfl) rfl #[.int .i64 t291] (by rfl) rfl rfl (by (try simp only [cb', cc', cd']); first | done | rfl | (simp only [ce', cf']; rfl)) ?_
  with_reducible refine (fanlightlaw07_num.calls t291 t342 _ A24.out).mono ?_
  rintro e w' ⟨rfl, ⟨nd, rfl⟩⟩
  refine ⟨_, rfl, ?_⟩
  refine hK.out _ _ ⟨(b' BK292.out 0).trans rfl, (b' BK292.out 1).trans rfl, (b' BK292.out 2).trans rfl, (b' BK302.out 0).trans rfl, (b' BK302.out 1).trans rfl, (b' BK302.out 2).trans rfl, (b' BK310.out 0).trans rfl, (b' BK310.out 1).trans rfl, (b' BK310.out 2).trans rfl, (b' BK324.out 0).trans rfl, (b' BK324.out 1).trans rfl, (b' BK324.out 2).trans rfl, (b' BK331.out 0).trans rfl, (b' BK331.out 1).trans rfl, (b' BK331.out 2).trans rfl, (b' BK338.out 0).trans rfl, (b' BK338.out 1).trans rfl, (b' BK338.out 2).trans rfl, (b' BK277.out 0).trans rfl, (b' BK277.out 1).trans rfl, (b' BK277.out 2).trans rfl, (b' BK265.out 0).trans rfl, (b' BK265.out 1).trans rfl, (b' BK265.out 2).trans rfl⟩ (fun hHeld => ?_)
  clear hK K
  refine norm_ (a' := ?_) ?_ ?_
  rotate_left
  · show Act.put _ (some 97) _ = _
    simp only [Act.put, bg', bh', ca', i64_w, i32_w]
    rfl
  refine pure_ (i := 18) (N := some 99) (v := ?_) (a' := ?_) #[Y,Y,Y,Y,Y,Y,Y,Y,Y,Y,Y,Y,Y,Y,Y,Y,Y,Y,Y,Z,Z,Z,Z,Z,Z,Z,Z,Z,Z,Z,Z,Z,Z,Z,Z,Z,Z,Z,Z,Z,Z,Z,Z,Z,Z,Z,Z,Z,Z,Z,Z,Z,Z,Z,Z,Z,Z,Z,Z,Z,Z,Z,Z,Z,Z,Z,Z,Z,Z,Z] rfl rfl (any_of HT_.out (by kernel_rfl)) (fun _ _ _ h => h) (Or.inl ⟨by rfl, ?_⟩) ?_ ?_
  rotate_left
  · intro w'
    go_simp
    with_reducible rfl
  rotate_left
  · simp only [Act.put, bg', bh', ca', i64_w, i32_w]
    rfl
  refine pure_ (i := 19) (N := some 100) (v := ?_) (a' := ?_) #[Y,Y,Y,Y,Y,Y,Y,Y,Y,Y,Y,Y,Y,Y,Y,Y,Y,Y,Y,Y,Z,Z,Z,Z,Z,Z,Z,Z,Z,Z,Z,Z,Z,Z,Z,Z,Z,Z,Z,Z,Z,Z,Z,Z,Z,Z,Z,Z,Z,Z,Z,Z,Z,Z,Z,Z,Z,Z,Z,Z,Z,Z,Z,Z,Z,Z,Z,Z,Z,Z] rfl rfl (any_of HT_.out (by kernel_rfl)) (fun _ _ _ h => h) (Or.inl ⟨by rfl, ?_⟩) ?_ ?_
  rotate_left
  · intro w'
    go_simp
    with_reducible rfl
  rotate_left
  · simp only [Act.put, bg', bh', ca', i64_w, i32_w]
    rfl
  refine pure_ (i := 20) (N := some 101) (v := ?_) (a' := ?_) #[Y,Y,Y,Y,Y,Y,Y,Y,Y,Y,Y,Y,Y,Y,Y,Y,Y,Y,Y,Y,Y,Z,Z,Z,Z,Z,Z,Z,Z,Z,Z,Z,Z,Z,Z,Z,Z,Z,Z,Z,Z,Z,Z,Z,Z,Z,Z,Z,Z,Z,Z,Z,Z,Z,Z,Z,Z,Z,Z,Z,Z,Z,Z,Z,Z,Z,Z,Z,Z,Z] rfl rfl (any_of HT_.out (by kernel_rfl)) (fun _ _ _ h => h) (Or.inl ⟨by rfl, ?_⟩) ?_ ?_
  rotate_left
  · intro w'
    go_simp
    with_reducible rfl
  rotate_left
  · simp only [Act.put, bg', bh', ca', i64_w, i32_w]
    rfl
  refine take_ (i := 21) (N := some 102) (v := ?_) (a' := ?_) #[Y,Y,Y,Y,Y,Y,Y,Y,Y,Y,Y,Y,Y,Y,Y,Y,Y,Y,Y,Y,Y,Y,Z,Z,Z,Z,Z,Z,Z,Z,Z,Z,Z,Z,Z,Z,Z,Z,Z,Z,Z,Z,Z,Z,Z,Z,Z,Z,Z,Z,Z,Z,Z,Z,Z,Z,Z,Z,Z,Z,Z,Z,Z,Z,Z,Z,Z,Z,Z,Z] rfl rfl (take_ofW HT_.out HW_.out (by kernel_rfl)) (fun _ _ _ h => h) (Or.inl ⟨by rfl, ?_⟩) hHeld ?_ ?_
  rotate_left
  · rintro w' ⟨s0, s1, s2, s3, s4, s5, s6, s7, s8, s9, s10, s11, s12, s13, s14, s15, s16, s17, s18, s19, s20, s21, s22, s23⟩
    go_simp
    with_reducible rfl
  rotate_left
  · simp only [Act.put, bg', bh', ca', i64_w, i32_w]
    rfl
  refine take_ (i := 22) (N := some 103) (v := ?_) (a' := ?_) #[Y,Y,Y,Y,Y,Y,Y,Y,Y,Y,Y,Y,Y,Y,Y,Y,Y,Y,Y,Y,Y,Y,Y,Z,Z,Z,Z,Z,Z,Z,Z,Z,Z,Z,Z,Z,Z,Z,Z,Z,Z,Z,Z,Z,Z,Z,Z,Z,Z,Z,Z,Z,Z,Z,Z,Z,Z,Z,Z,Z,Z,Z,Z,Z,Z,Z,Z,Z,Z,Z] rfl rfl (take_ofW HT_.out HW_.out (by kernel_rfl)) (fun _ _ _ h => h) (Or.inl ⟨by rfl, ?_⟩) hHeld ?_ ?_
  rotate_left
  · rintro w' ⟨s0, s1, s2, s3, s4, s5, s6, s7, s8, s9, s10, s11, s12, s13, s14, s15, s16, s17, s18, s19, s20, s21, s22, s23⟩
    go_simp
    with_reducible rfl
  rotate_left
  · simp only [Act.put, bg', bh', ca', i64_w, i32_w]
    rfl
  refine one_ (i := 23) (N := some 104) #[Y,Y,Y,Y,Y,Y,Y,Y,Y,Y,Y,Y,Y,Y,Y,Y,Y,Y,Y,Y,Y,Y,Y,Y,Z,Z,Z,Z,Z,Z,Z,Z,Z,Z,Z,Z,Z,Z,Z,Z,Z,Z,Z,Z,Z,Z,Z,Z,Z,Z,Z,Z,Z,Z,Z,Z,Z,Z,Z,Z,Z,Z,Z,Z,Z,Z,Z,Z,Z,Z] rfl rfl (one_of HT_.out (by kernel_rfl)) (by decide) (fun K hK => ?_)
  refine goes_ Try.func23 (by kernel_rfl) rfl #[.agg #[.int .i64 t303, .int .i64 t304, .slice Ao82 t305.length co82], .agg #[.int .i64 t317, .int .i64 t318, .slice Ao96 t319.length co96]] (by rfl) rfl rfl (by (try simp only [cb', cc', cd']); first | done | rfl | (simp only [ce', cf']; rfl)) ?_
  with_reducible refine (fanlightlaw07_same.calls t303 t304 _ _ t305 t317 t318 _ _ t319 true _ ?side1 ?side2 ?side3 ?side4 A26.out).mono ?_
  (case side1 => repeat (first | exact (bb' HO307.out).2.2 | (with_reducible refine bf' ?_ _) | (with_reducible refine be' ?_ _) | (with_reducible refine Kd.C_drew ?_)))
  (case side2 => exact (bb' HO307.out).2.1)
  (case side3 => repeat (first | exact (bb' HO321.out).2.2 | (with_reducible refine bf' ?_ _) | (with_reducible refine be' ?_ _) | (with_reducible refine Kd.C_drew ?_)))
  (case side4 => exact (bb' HO321.out).2.1)
  rintro e w123 ⟨rfl, hb⟩
  refine ⟨_, rfl, ?_⟩
  have n0_ := cg' (l' (by (with_reducible repeat (first | apply h' | apply g' | apply j')); exact HO270.out) hb)
  have n1_ := cg' (v' (by (with_reducible repeat (first | apply o' | apply n' | apply q')); exact HO273.out) hb)
  have n2_ := cg' (v' (by (with_reducible repeat (first | apply o' | apply n' | apply q')); exact HO276.out) hb)
  have n3_ := cg' (l' (by (with_reducible repeat (first | apply h' | apply g' | apply j')); exact HO280.out) hb)
  have n4_ := cg' (l' (by (with_reducible repeat (first | apply h' | apply g' | apply j')); exact HO284.out) hb)
  have n5_ := cg' (l' (by (with_reducible repeat (first | apply h' | apply g' | apply j')); exact HO290.out) hb)
  have n6_ := cg' (v' (by (with_reducible repeat (first | apply o' | apply n' | apply q')); exact HO295.out) hb)
  have n7_ := cg' (l' (by (with_reducible repeat (first | apply h' | apply g' | apply j')); exact HO300.out) hb)
  have n8_ := cg' (l' (by (with_reducible repeat (first | apply h' | apply g' | apply j')); exact HO307.out) hb)
  have n9_ := cg' (v' (by (with_reducible repeat (first | apply o' | apply n' | apply q')); exact HO313.out) hb)
  have n10_ := cg' (v' (by (with_reducible repeat (first | apply o' | apply n' | apply q')); exact HO316.out) hb)
  have n11_ := cg' (l' (by (with_reducible repeat (first | apply h' | apply g' | apply j')); exact HO321.out) hb)
  have n12_ := cg' (l' (by (with_reducible repeat (first | apply h' | apply g' | apply j')); exact HO329.out) hb)
  have n13_ := cg' (l' (by (with_reducible repeat (first | apply h' | apply g' | apply j')); exact HO336.out) hb)
  have n14_ := cg' (m' (g := gb265) (o := .cells #[.int .i64 a0_0, .int .i64 a0_1, .slice A0_2 l0_2.length c0_2] 24 (0, 0)) (by (with_reducible repeat (first | apply c' | apply f' | apply d')); exact BK265.out) hb)
  have n15_ := cg' (m' (g := gb277) (o := .cells #[.int .i64 t266, .int .i64 t267, .slice Ao53 t268.length co53] 25 (0, 0)) (by (with_reducible repeat (first | apply c' | apply f' | apply d')); exact BK277.out) hb)
  have n16_ := cg' (m' (g := gb292) (o := .cells #[.int .i64 t286, .int .i64 t287, .slice Ao63 t288.length co63] 25 (0, 0)) (by (with_reducible repeat (first | apply c' | apply f' | apply d')); exact BK292.out) hb)
  have n17_ := cg' (m' (g := gb302) (o := .cells #[.int .i64 t296, .int .i64 t297, .slice Ao73 t298.length co73] 24 (0, 0)) (by (with_reducible repeat (first | apply c' | apply f' | apply d')); exact BK302.out) hb)
  have n18_ := cg' (m' (g := gb310) (o := .cells #[.int .i64 t303, .int .i64 t304, .slice Ao82 t305.length co82] 25 (0, 0)) (by (with_reducible repeat (first | apply c' | apply f' | apply d')); exact BK310.out) hb)
  have n19_ := cg' (m' (g := gb324) (o := .cells #[.int .i64 t317, .int .i64 t318, .slice Ao96 t319.length co96] 24 (0, 0)) (by (with_reducible repeat (first | apply c' | apply f' | apply d')); exact BK324.out) hb)
  have n20_ := cg' (m' (g := gb331) (o := .cells #[.int .i64 t325, .int .i64 t326, .slice Ao106 t327.length co106] 25 (0, 0)) (by (with_reducible repeat (first | apply c' | apply f' | apply d')); exact BK331.out) hb)
  have n21_ := cg' (m' (g := gb338) (o := .cells #[.int .i64 t332, .int .i64 t333, .slice Ao117 t334.length co117] 24 (0, 0)) (by (with_reducible repeat (first | apply c' | apply f' | apply d')); exact BK338.out) hb)
  have n22_ := cg' (ah' (by repeat (first | (with_reducible first | exact HB.out | apply s' | apply p' | apply r' | refine e' ?_ GE265.out | refine e' ?_ GE277.out | refine e' ?_ GE292.out | refine e' ?_ GE302.out | refine e' ?_ GE310.out | refine e' ?_ GE324.out | refine e' ?_ GE331.out | refine e' ?_ GE338.out) | exact HB.out)) hb)
  clear HO270
  clear HO273
  clear HO276
  clear HO280
  clear HO284
  clear HO290
  clear HO295
  clear HO300
  clear HO307
  clear HO313
  clear HO316
  clear HO321
  clear HO329
  clear HO336
  clear BK265
  clear BK277
  clear BK292
  clear BK302
  clear BK310
  clear BK324
  clear BK331
  clear BK338
  clear HB
  have HO270 := n0_
  have HO273 := n1_
  have HO276 := n2_
  have HO280 := n3_
  have HO284 := n4_
  have HO290 := n5_
  have HO295 := n6_
  have HO300 := n7_
  have HO307 := n8_
  have HO313 := n9_
  have HO316 := n10_
  have HO321 := n11_
  have HO329 := n12_
  have HO336 := n13_
  have BK265 := n14_
  have BK277 := n15_
  have BK292 := n16_
  have BK302 := n17_
  have BK310 := n18_
  have BK324 := n19_
  have BK331 := n20_
  have BK338 := n21_
  have HB := n22_
  clear n0_ n1_ n2_ n3_ n4_ n5_ n6_ n7_ n8_ n9_ n10_ n11_ n12_ n13_ n14_ n15_ n16_ n17_ n18_ n19_ n20_ n21_ n22_
  (try clear hb)
  (try clear hb2)
  (try clear hk)
  (try clear hi)
  refine hK.out _ _ ⟨(b' BK292.out 0).trans rfl, (b' BK292.out 1).trans rfl, (b' BK292.out 2).trans rfl, (b' BK302.out 0).trans rfl, (b' BK302.out 1).trans rfl, (b' BK302.out 2).trans rfl, (b' BK310.out 0).trans rfl, (b' BK310.out 1).trans rfl, (b' BK310.out 2).trans rfl, (b' BK324.out 0).trans rfl, (b' BK324.out 1).trans rfl, (b' BK324.out 2).trans rfl, (b' BK331.out 0).trans rfl, (b' BK331.out 1).trans rfl, (b' BK331.out 2).trans rfl, (b' BK338.out 0).trans rfl, (b' BK338.out 1).trans rfl, (b' BK338.out 2).trans rfl, (b' BK277.out 0).trans rfl, (b' BK277.out 1).trans rfl, (b' BK277.out 2).trans rfl, (b' BK265.out 0).trans rfl, (b' BK265.out 1).trans rfl, (b' BK265.out 2).trans rfl⟩ (fun hHeld => ?_)
  clear hK K
  refine norm_ (a' := ?_) ?_ ?_
  rotate_left
  · show Act.put _ (some 104) _ = _
    simp only [Act.put, bg', bh', ca', i64_w, i32_w]
    rfl
  refine pure_ (i := 24) (N := some 105) (v := ?_) (a' := ?_) #[Y,Y,Y,Y,Y,Y,Y,Y,Y,Y,Y,Y,Y,Y,Y,Y,Y,Y,Y,Y,Y,Y,Y,Y,Y,Z,Z,Z,Z,Z,Z,Z,Z,Z,Z,Z,Z,Z,Z,Z,Z,Z,Z,Z,Z,Z,Z,Z,Z,Z,Z,Z,Z,Z,Z,Z,Z,Z,Z,Z,Z,Z,Z,Z,Z,Z,Z,Z,Z,Z] rfl rfl (any_of HT_.out (by kernel_rfl)) (fun _ _ _ h => h) (Or.inl ⟨by rfl, ?_⟩) ?_ ?_
  rotate_left
  · intro w'
    go_simp
    with_reducible rfl
  rotate_left
  · simp only [Act.put, bg', bh', ca', i64_w, i32_w]
    rfl
  refine pure_ (i := 25) (N := some 106) (v := ?_) (a' := ?_) #[Y,Y,Y,Y,Y,Y,Y,Y,Y,Y,Y,Y,Y,Y,Y,Y,Y,Y,Y,Y,Y,Y,Y,Y,Y,Y,Z,Z,Z,Z,Z,Z,Z,Z,Z,Z,Z,Z,Z,Z,Z,Z,Z,Z,Z,Z,Z,Z,Z,Z,Z,Z,Z,Z,Z,Z,Z,Z,Z,Z,Z,Z,Z,Z,Z,Z,Z,Z,Z,Z] rfl rfl (any_of HT_.out (by kernel_rfl)) (fun _ _ _ h => h) (Or.inl ⟨by rfl, ?_⟩) ?_ ?_
  rotate_left
  · intro w'
    go_simp
    with_reducible rfl
  rotate_left
  · simp only [Act.put, bg', bh', ca', i64_w, i32_w]
    rfl
  refine pure_ (i := 26) (N := some 107) (v := ?_) (a' := ?_) #[Y,Y,Y,Y,Y,Y,Y,Y,Y,Y,Y,Y,Y,Y,Y,Y,Y,Y,Y,Y,Y,Y,Y,Y,Y,Y,Y,Z,Z,Z,Z,Z,Z,Z,Z,Z,Z,Z,Z,Z,Z,Z,Z,Z,Z,Z,Z,Z,Z,Z,Z,Z,Z,Z,Z,Z,Z,Z,Z,Z,Z,Z,Z,Z,Z,Z,Z,Z,Z,Z] rfl rfl (any_of HT_.out (by kernel_rfl)) (fun _ _ _ h => h) (Or.inl ⟨by rfl, ?_⟩) ?_ ?_
  rotate_left
  · intro w'
    go_simp
    with_reducible rfl
  rotate_left
  · simp only [Act.put, bg', bh', ca', i64_w, i32_w]
    rfl
  refine pure_ (i := 27) (N := some 108) (v := ?_) (a' := ?_) #[Y,Y,Y,Y,Y,Y,Y,Y,Y,Y,Y,Y,Y,Y,Y,Y,Y,Y,Y,Y,Y,Y,Y,Y,Y,Y,Y,Y,Z,Z,Z,Z,Z,Z,Z,Z,Z,Z,Z,Z,Z,Z,Z,Z,Z,Z,Z,Z,Z,Z,Z,Z,Z,Z,Z,Z,Z,Z,Z,Z,Z,Z,Z,Z,Z,Z,Z,Z,Z,Z] rfl rfl (any_of HT_.out (by kernel_rfl)) (fun _ _ _ h => h) (Or.inl ⟨by rfl, ?_⟩) ?_ ?_
  rotate_left
  · intro w'
    go_simp
    with_reducible rfl
  rotate_left
  · simp only [Act.put, bg', bh', ca', i64_w, i32_w]
    rfl
  refine pure_ (i := 28) (N := some 109) (v := ?_) (a' := ?_) #[Y,Y,Y,Y,Y,Y,Y,Y,Y,Y,Y,Y,Y,Y,Y,Y,Y,Y,Y,Y,Y,Y,Y,Y,Y,Y,Y,Y,Y,Z,Z,Z,Z,Z,Z,Z,Z,Z,Z,Z,Z,Z,Z,Z,Z,Z,Z,Z,Z,Z,Z,Z,Z,Z,Z,Z,Z,Z,Z,Z,Z,Z,Z,Z,Z,Z,Z,Z,Z,Z] rfl rfl (any_of HT_.out (by kernel_rfl)) (fun _ _ _ h => h) (Or.inl ⟨by rfl, ?_⟩) ?_ ?_
  rotate_left
  · intro w'
    go_simp
    with_reducible rfl
  rotate_left
  · simp only [Act.put, bg', bh', ca', i64_w, i32_w]
    rfl
  refine pure_ (i := 29) (N := some 110) (v := ?_) (a' := ?_) #[Y,Y,Y,Y,Y,Y,Y,Y,Y,Y,Y,Y,Y,Y,Y,Y,Y,Y,Y,Y,Y,Y,Y,Y,Y,Y,Y,Y,Y,Y,Z,Z,Z,Z,Z,Z,Z,Z,Z,Z,Z,Z,Z,Z,Z,Z,Z,Z,Z,Z,Z,Z,Z,Z,Z,Z,Z,Z,Z,Z,Z,Z,Z,Z,Z,Z,Z,Z,Z,Z] rfl rfl (any_of HT_.out (by kernel_rfl)) (fun _ _ _ h => h) (Or.inl ⟨by rfl, ?_⟩) ?_ ?_
  rotate_left
  · intro w'
    go_simp
    with_reducible rfl
  rotate_left
  · simp only [Act.put, bg', bh', ca', i64_w, i32_w]
    rfl
  refine pure_ (i := 30) (N := some 111) (v := ?_) (a' := ?_) #[Y,Y,Y,Y,Y,Y,Y,Y,Y,Y,Y,Y,Y,Y,Y,Y,Y,Y,Y,Y,Y,Y,Y,Y,Y,Y,Y,Y,Y,Y,Y,Z,Z,Z,Z,Z,Z,Z,Z,Z,Z,Z,Z,Z,Z,Z,Z,Z,Z,Z,Z,Z,Z,Z,Z,Z,Z,Z,Z,Z,Z,Z,Z,Z,Z,Z,Z,Z,Z,Z] rfl rfl (any_of HT_.out (by kernel_rfl)) (fun _ _ _ h => h) (Or.inl ⟨by rfl, ?_⟩) ?_ ?_
  rotate_left
  · intro w'
    go_simp
    with_reducible rfl
  rotate_left
  · simp only [Act.put, bg', bh', ca', i64_w, i32_w]
    rfl
  refine pure_ (i := 31) (N := some 112) (v := ?_) (a' := ?_) #[Y,Y,Y,Y,Y,Y,Y,Y,Y,Y,Y,Y,Y,Y,Y,Y,Y,Y,Y,Y,Y,Y,Y,Y,Y,Y,Y,Y,Y,Y,Y,Y,Z,Z,Z,Z,Z,Z,Z,Z,Z,Z,Z,Z,Z,Z,Z,Z,Z,Z,Z,Z,Z,Z,Z,Z,Z,Z,Z,Z,Z,Z,Z,Z,Z,Z,Z,Z,Z,Z] rfl rfl (any_of HT_.out (by kernel_rfl)) (fun _ _ _ h => h) (Or.inl ⟨by rfl, ?_⟩) ?_ ?_
  rotate_left
  · intro w'
    go_simp
    with_reducible rfl
  rotate_left
  · simp only [Act.put, bg', bh', ca', i64_w, i32_w]
    rfl
  refine pure_ (i := 33) (N := some 114) (v := ?_) (a' := ?_) #[Y,Y,Y,Y,Y,Y,Y,Y,Y,Y,Y,Y,Y,Y,Y,Y,Y,Y,Y,Y,Y,Y,Y,Y,Y,Y,Y,Y,Y,Y,Y,Y,Z,Y,Z,Z,Z,Z,Z,Z,Z,Z,Z,Z,Z,Z,Z,Z,Z,Z,Z,Z,Z,Z,Z,Z,Z,Z,Z,Z,Z,Z,Z,Z,Z,Z,Z,Z,Z,Z] rfl rfl (any_of HT_.out (by kernel_rfl)) (fun _ _ _ h => h) (Or.inl ⟨by rfl, ?_⟩) ?_ ?_
  rotate_left
  · intro w'
    go_simp
    with_reducible rfl
  rotate_left
  · simp only [Act.put, bg', bh', ca', i64_w, i32_w]
    rfl
  refine one_ (i := 32) (N := some 113) #[Y,Y,Y,Y,Y,Y,Y,Y,Y,Y,Y,Y,Y,Y,Y,Y,Y,Y,Y,Y,Y,Y,Y,Y,Y,Y,Y,Y,Y,Y,Y,Y,Y,Y,Z,Z,Z,Z,Z,Z,Z,Z,Z,Z,Z,Z,Z,Z,Z,Z,Z,Z,Z,Z,Z,Z,Z,Z,Z,Z,Z,Z,Z,Z,Z,Z,Z,Z,Z,Z] rfl rfl (one_of HT_.out (by kernel_rfl)) (by decide) (fun K hK => ?_)
  refine goes_ Try.func22 (by kernel_rfl) rfl #[.int .i64 t309] (by rfl) rfl rfl (by (try simp only [cb', cc', cd']); first | done | rfl | (simp only [ce', cf']; rfl)) ?_
  with_reducible refine (fanlightlaw07_num.calls t309 t344 _ A29.out).mono ?_
  rintro e w' ⟨rfl, ⟨nd, rfl⟩⟩
  refine ⟨_, rfl, ?_⟩
  refine hK.out _ _ ⟨(b' BK292.out 0).trans rfl, (b' BK292.out 1).trans rfl, (b' BK292.out 2).trans rfl, (b' BK302.out 0).trans rfl, (b' BK302.out 1).trans rfl, (b' BK302.out 2).trans rfl, (b' BK310.out 0).trans rfl, (b' BK310.out 1).trans rfl, (b' BK310.out 2).trans rfl, (b' BK324.out 0).trans rfl, (b' BK324.out 1).trans rfl, (b' BK324.out 2).trans rfl, (b' BK331.out 0).trans rfl, (b' BK331.out 1).trans rfl, (b' BK331.out 2).trans rfl, (b' BK338.out 0).trans rfl, (b' BK338.out 1).trans rfl, (b' BK338.out 2).trans rfl, (b' BK277.out 0).trans rfl, (b' BK277.out 1).trans rfl, (b' BK277.out 2).trans rfl, (b' BK265.out 0).trans rfl, (b' BK265.out 1).trans rfl, (b' BK265.out 2).trans rfl⟩ (fun hHeld => ?_)
  clear hK K
  refine norm_ (a' := ?_) ?_ ?_
  rotate_left
  · show Act.put _ (some 113) _ = _
    simp only [Act.put, bg', bh', ca', i64_w, i32_w]
    rfl
  refine pure_ (i := 34) (N := some 115) (v := ?_) (a' := ?_) #[Y,Y,Y,Y,Y,Y,Y,Y,Y,Y,Y,Y,Y,Y,Y,Y,Y,Y,Y,Y,Y,Y,Y,Y,Y,Y,Y,Y,Y,Y,Y,Y,Y,Y,Y,Z,Z,Z,Z,Z,Z,Z,Z,Z,Z,Z,Z,Z,Z,Z,Z,Z,Z,Z,Z,Z,Z,Z,Z,Z,Z,Z,Z,Z,Z,Z,Z,Z,Z,Z] rfl rfl (any_of HT_.out (by kernel_rfl)) (fun _ _ _ h => h) (Or.inl ⟨by rfl, ?_⟩) ?_ ?_
  rotate_left
  · intro w'
    go_simp
    with_reducible rfl
  rotate_left
  · simp only [Act.put, bg', bh', ca', i64_w, i32_w]
    rfl
  refine pure_ (i := 35) (N := some 116) (v := ?_) (a' := ?_) #[Y,Y,Y,Y,Y,Y,Y,Y,Y,Y,Y,Y,Y,Y,Y,Y,Y,Y,Y,Y,Y,Y,Y,Y,Y,Y,Y,Y,Y,Y,Y,Y,Y,Y,Y,Y,Z,Z,Z,Z,Z,Z,Z,Z,Z,Z,Z,Z,Z,Z,Z,Z,Z,Z,Z,Z,Z,Z,Z,Z,Z,Z,Z,Z,Z,Z,Z,Z,Z,Z] rfl rfl (any_of HT_.out (by kernel_rfl)) (fun _ _ _ h => h) (Or.inl ⟨by rfl, ?_⟩) ?_ ?_
  rotate_left
  · intro w'
    go_simp
    with_reducible rfl
  rotate_left
  · simp only [Act.put, bg', bh', ca', i64_w, i32_w]
    rfl
  refine pure_ (i := 36) (N := some 117) (v := ?_) (a' := ?_) #[Y,Y,Y,Y,Y,Y,Y,Y,Y,Y,Y,Y,Y,Y,Y,Y,Y,Y,Y,Y,Y,Y,Y,Y,Y,Y,Y,Y,Y,Y,Y,Y,Y,Y,Y,Y,Y,Z,Z,Z,Z,Z,Z,Z,Z,Z,Z,Z,Z,Z,Z,Z,Z,Z,Z,Z,Z,Z,Z,Z,Z,Z,Z,Z,Z,Z,Z,Z,Z,Z] rfl rfl (any_of HT_.out (by kernel_rfl)) (fun _ _ _ h => h) (Or.inl ⟨by rfl, ?_⟩) ?_ ?_
  rotate_left
  · intro w'
    go_simp
    with_reducible rfl
  rotate_left
  · simp only [Act.put, bg', bh', ca', i64_w, i32_w]
    rfl
  refine take_ (i := 37) (N := some 118) (v := ?_) (a' := ?_) #[Y,Y,Y,Y,Y,Y,Y,Y,Y,Y,Y,Y,Y,Y,Y,Y,Y,Y,Y,Y,Y,Y,Y,Y,Y,Y,Y,Y,Y,Y,Y,Y,Y,Y,Y,Y,Y,Y,Z,Z,Z,Z,Z,Z,Z,Z,Z,Z,Z,Z,Z,Z,Z,Z,Z,Z,Z,Z,Z,Z,Z,Z,Z,Z,Z,Z,Z,Z,Z,Z] rfl rfl (take_ofW HT_.out HW_.out (by kernel_rfl)) (fun _ _ _ h => h) (Or.inl ⟨by rfl, ?_⟩) hHeld ?_ ?_
  rotate_left
  · rintro w' ⟨s0, s1, s2, s3, s4, s5, s6, s7, s8, s9, s10, s11, s12, s13, s14, s15, s16, s17, s18, s19, s20, s21, s22, s23⟩
    go_simp
    with_reducible rfl
  rotate_left
  · simp only [Act.put, bg', bh', ca', i64_w, i32_w]
    rfl
  refine take_ (i := 38) (N := some 119) (v := ?_) (a' := ?_) #[Y,Y,Y,Y,Y,Y,Y,Y,Y,Y,Y,Y,Y,Y,Y,Y,Y,Y,Y,Y,Y,Y,Y,Y,Y,Y,Y,Y,Y,Y,Y,Y,Y,Y,Y,Y,Y,Y,Y,Z,Z,Z,Z,Z,Z,Z,Z,Z,Z,Z,Z,Z,Z,Z,Z,Z,Z,Z,Z,Z,Z,Z,Z,Z,Z,Z,Z,Z,Z,Z] rfl rfl (take_ofW HT_.out HW_.out (by kernel_rfl)) (fun _ _ _ h => h) (Or.inl ⟨by rfl, ?_⟩) hHeld ?_ ?_
  rotate_left
  · rintro w' ⟨s0, s1, s2, s3, s4, s5, s6, s7, s8, s9, s10, s11, s12, s13, s14, s15, s16, s17, s18, s19, s20, s21, s22, s23⟩
    go_simp
    with_reducible rfl
  rotate_left
  · simp only [Act.put, bg', bh', ca', i64_w, i32_w]
    rfl
  refine one_ (i := 39) (N := some 120) #[Y,Y,Y,Y,Y,Y,Y,Y,Y,Y,Y,Y,Y,Y,Y,Y,Y,Y,Y,Y,Y,Y,Y,Y,Y,Y,Y,Y,Y,Y,Y,Y,Y,Y,Y,Y,Y,Y,Y,Y,Z,Z,Z,Z,Z,Z,Z,Z,Z,Z,Z,Z,Z,Z,Z,Z,Z,Z,Z,Z,Z,Z,Z,Z,Z,Z,Z,Z,Z,Z] rfl rfl (one_of HT_.out (by kernel_rfl)) (by decide) (fun K hK => ?_)
  refine goes_ Try.func23 (by kernel_rfl) rfl #[.agg #[.int .i64 t325, .int .i64 t326, .slice Ao106 t327.length co106], .agg #[.int .i64 t332, .int .i64 t333, .slice Ao117 t334.length co117]] (by rfl) rfl rfl (by (try simp only [cb', cc', cd']); first | done | rfl | (simp only [ce', cf']; rfl)) ?_
  with_reducible refine (fanlightlaw07_same.calls t325 t326 _ _ t327 t332 t333 _ _ t334 true _ ?side1 ?side2 ?side3 ?side4 A31.out).mono ?_
  (case side1 => repeat (first | exact (bb' HO329.out).2.2 | (with_reducible refine bf' ?_ _) | (with_reducible refine be' ?_ _) | (with_reducible refine Kd.C_drew ?_)))
  (case side2 => exact (bb' HO329.out).2.1)
  (case side3 => repeat (first | exact (bb' HO336.out).2.2 | (with_reducible refine bf' ?_ _) | (with_reducible refine be' ?_ _) | (with_reducible refine Kd.C_drew ?_)))
  (case side4 => exact (bb' HO336.out).2.1)
  rintro e w124 ⟨rfl, hb⟩
  refine ⟨_, rfl, ?_⟩
  have n0_ := cg' (l' (by (with_reducible repeat (first | apply h' | apply g' | apply j')); exact HO270.out) hb)
  have n1_ := cg' (v' (by (with_reducible repeat (first | apply o' | apply n' | apply q')); exact HO273.out) hb)
  have n2_ := cg' (v' (by (with_reducible repeat (first | apply o' | apply n' | apply q')); exact HO276.out) hb)
  have n3_ := cg' (l' (by (with_reducible repeat (first | apply h' | apply g' | apply j')); exact HO280.out) hb)
  have n4_ := cg' (l' (by (with_reducible repeat (first | apply h' | apply g' | apply j')); exact HO284.out) hb)
  have n5_ := cg' (l' (by (with_reducible repeat (first | apply h' | apply g' | apply j')); exact HO290.out) hb)
  have n6_ := cg' (v' (by (with_reducible repeat (first | apply o' | apply n' | apply q')); exact HO295.out) hb)
  have n7_ := cg' (l' (by (with_reducible repeat (first | apply h' | apply g' | apply j')); exact HO300.out) hb)
  have n8_ := cg' (l' (by (with_reducible repeat (first | apply h' | apply g' | apply j')); exact HO307.out) hb)
  have n9_ := cg' (v' (by (with_reducible repeat (first | apply o' | apply n' | apply q')); exact HO313.out) hb)
  have n10_ := cg' (v' (by (with_reducible repeat (first | apply o' | apply n' | apply q')); exact HO316.out) hb)
  have n11_ := cg' (l' (by (with_reducible repeat (first | apply h' | apply g' | apply j')); exact HO321.out) hb)
  have n12_ := cg' (l' (by (with_reducible repeat (first | apply h' | apply g' | apply j')); exact HO329.out) hb)
  have n13_ := cg' (l' (by (with_reducible repeat (first | apply h' | apply g' | apply j')); exact HO336.out) hb)
  have n14_ := cg' (m' (g := gb265) (o := .cells #[.int .i64 a0_0, .int .i64 a0_1, .slice A0_2 l0_2.length c0_2] 24 (0, 0)) (by (with_reducible repeat (first | apply c' | apply f' | apply d')); exact BK265.out) hb)
  have n15_ := cg' (m' (g := gb277) (o := .cells #[.int .i64 t266, .int .i64 t267, .slice Ao53 t268.length co53] 25 (0, 0)) (by (with_reducible repeat (first | apply c' | apply f' | apply d')); exact BK277.out) hb)
  have n16_ := cg' (m' (g := gb292) (o := .cells #[.int .i64 t286, .int .i64 t287, .slice Ao63 t288.length co63] 25 (0, 0)) (by (with_reducible repeat (first | apply c' | apply f' | apply d')); exact BK292.out) hb)
  have n17_ := cg' (m' (g := gb302) (o := .cells #[.int .i64 t296, .int .i64 t297, .slice Ao73 t298.length co73] 24 (0, 0)) (by (with_reducible repeat (first | apply c' | apply f' | apply d')); exact BK302.out) hb)
  have n18_ := cg' (m' (g := gb310) (o := .cells #[.int .i64 t303, .int .i64 t304, .slice Ao82 t305.length co82] 25 (0, 0)) (by (with_reducible repeat (first | apply c' | apply f' | apply d')); exact BK310.out) hb)
  have n19_ := cg' (m' (g := gb324) (o := .cells #[.int .i64 t317, .int .i64 t318, .slice Ao96 t319.length co96] 24 (0, 0)) (by (with_reducible repeat (first | apply c' | apply f' | apply d')); exact BK324.out) hb)
  have n20_ := cg' (m' (g := gb331) (o := .cells #[.int .i64 t325, .int .i64 t326, .slice Ao106 t327.length co106] 25 (0, 0)) (by (with_reducible repeat (first | apply c' | apply f' | apply d')); exact BK331.out) hb)
  have n21_ := cg' (m' (g := gb338) (o := .cells #[.int .i64 t332, .int .i64 t333, .slice Ao117 t334.length co117] 24 (0, 0)) (by (with_reducible repeat (first | apply c' | apply f' | apply d')); exact BK338.out) hb)
  have n22_ := cg' (ah' (by repeat (first | (with_reducible first | exact HB.out | apply s' | apply p' | apply r' | refine e' ?_ GE265.out | refine e' ?_ GE277.out | refine e' ?_ GE292.out | refine e' ?_ GE302.out | refine e' ?_ GE310.out | refine e' ?_ GE324.out | refine e' ?_ GE331.out | refine e' ?_ GE338.out) | exact HB.out)) hb)
  clear HO270
  clear HO273
  clear HO276
  clear HO280
  clear HO284
  clear HO290
  clear HO295
  clear HO300
  clear HO307
  clear HO313
  clear HO316
  clear HO321
  clear HO329
  clear HO336
  clear BK265
  clear BK277
  clear BK292
  clear BK302
  clear BK310
  clear BK324
  clear BK331
  clear BK338
  clear HB
  have HO270 := n0_
  have HO273 := n1_
  have HO276 := n2_
  have HO280 := n3_
  have HO284 := n4_
  have HO290 := n5_
  have HO295 := n6_
  have HO300 := n7_
  have HO307 := n8_
  have HO313 := n9_
  have HO316 := n10_
  have HO321 := n11_
  have HO329 := n12_
  have HO336 := n13_
  have BK265 := n14_
  have BK277 := n15_
  have BK292 := n16_
  have BK302 := n17_
  have BK310 := n18_
  have BK324 := n19_
  have BK331 := n20_
  have BK338 := n21_
  have HB := n22_
  clear n0_ n1_ n2_ n3_ n4_ n5_ n6_ n7_ n8_ n9_ n10_ n11_ n12_ n13_ n14_ n15_ n16_ n17_ n18_ n19_ n20_ n21_ n22_
  (try clear hb)
  (try clear hb2)
  (try clear hk)
  (try clear hi)
  refine hK.out _ _ ⟨(b' BK292.out 0).trans rfl, (b' BK292.out 1).trans rfl, (b' BK292.out 2).trans rfl, (b' BK302.out 0).trans rfl, (b' BK302.out 1).trans rfl, (b' BK302.out 2).trans rfl, (b' BK310.out 0).trans rfl, (b' BK310.out 1).trans rfl, (b' BK310.out 2).trans rfl, (b' BK324.out 0).trans rfl, (b' BK324.out 1).trans rfl, (b' BK324.out 2).trans rfl, (b' BK331.out 0).trans rfl, (b' BK331.out 1).trans rfl, (b' BK331.out 2).trans rfl, (b' BK338.out 0).trans rfl, (b' BK338.out 1).trans rfl, (b' BK338.out 2).trans rfl, (b' BK277.out 0).trans rfl, (b' BK277.out 1).trans rfl, (b' BK277.out 2).trans rfl, (b' BK265.out 0).trans rfl, (b' BK265.out 1).trans rfl, (b' BK265.out 2).trans rfl⟩ (fun hHeld => ?_)
  clear hK K
  refine norm_ (a' := ?_) ?_ ?_
  rotate_left
  · show Act.put _ (some 120) _ = _
    simp only [Act.put, bg', bh', ca', i64_w, i32_w]
    rfl
  refine pure_ (i := 40) (N := some 121) (v := ?_) (a' := ?_) #[Y,Y,Y,Y,Y,Y,Y,Y,Y,Y,Y,Y,Y,Y,Y,Y,Y,Y,Y,Y,Y,Y,Y,Y,Y,Y,Y,Y,Y,Y,Y,Y,Y,Y,Y,Y,Y,Y,Y,Y,Y,Z,Z,Z,Z,Z,Z,Z,Z,Z,Z,Z,Z,Z,Z,Z,Z,Z,Z,Z,Z,Z,Z,Z,Z,Z,Z,Z,Z,Z] rfl rfl (any_of HT_.out (by kernel_rfl)) (fun _ _ _ h => h) (Or.inl ⟨by rfl, ?_⟩) ?_ ?_
  rotate_left
  · intro w'
    go_simp
    with_reducible rfl
  rotate_left
  · simp only [Act.put, bg', bh', ca', i64_w, i32_w]
    rfl
  refine pure_ (i := 41) (N := some 122) (v := ?_) (a' := ?_) #[Y,Y,Y,Y,Y,Y,Y,Y,Y,Y,Y,Y,Y,Y,Y,Y,Y,Y,Y,Y,Y,Y,Y,Y,Y,Y,Y,Y,Y,Y,Y,Y,Y,Y,Y,Y,Y,Y,Y,Y,Y,Y,Z,Z,Z,Z,Z,Z,Z,Z,Z,Z,Z,Z,Z,Z,Z,Z,Z,Z,Z,Z,Z,Z,Z,Z,Z,Z,Z,Z] rfl rfl (any_of HT_.out (by kernel_rfl)) (fun _ _ _ h => h) (Or.inl ⟨by rfl, ?_⟩) ?_ ?_
  rotate_left
  · intro w'
    go_simp
    with_reducible rfl
  rotate_left
  · simp only [Act.put, bg', bh', ca', i64_w, i32_w]
    rfl
  refine pure_ (i := 42) (N := some 123) (v := ?_) (a' := ?_) #[Y,Y,Y,Y,Y,Y,Y,Y,Y,Y,Y,Y,Y,Y,Y,Y,Y,Y,Y,Y,Y,Y,Y,Y,Y,Y,Y,Y,Y,Y,Y,Y,Y,Y,Y,Y,Y,Y,Y,Y,Y,Y,Y,Z,Z,Z,Z,Z,Z,Z,Z,Z,Z,Z,Z,Z,Z,Z,Z,Z,Z,Z,Z,Z,Z,Z,Z,Z,Z,Z] rfl rfl (any_of HT_.out (by kernel_rfl)) (fun _ _ _ h => h) (Or.inl ⟨by rfl, ?_⟩) ?_ ?_
  rotate_left
  · intro w'
    go_simp
    with_reducible rfl
  rotate_left
  · simp only [Act.put, bg', bh', ca', i64_w, i32_w]
    rfl
  refine pure_ (i := 44) (N := some 125) (v := ?_) (a' := ?_) #[Y,Y,Y,Y,Y,Y,Y,Y,Y,Y,Y,Y,Y,Y,Y,Y,Y,Y,Y,Y,Y,Y,Y,Y,Y,Y,Y,Y,Y,Y,Y,Y,Y,Y,Y,Y,Y,Y,Y,Y,Y,Y,Y,Z,Y,Z,Z,Z,Z,Z,Z,Z,Z,Z,Z,Z,Z,Z,Z,Z,Z,Z,Z,Z,Z,Z,Z,Z,Z,Z] rfl rfl (any_of HT_.out (by kernel_rfl)) (fun _ _ _ h => h) (Or.inl ⟨by rfl, ?_⟩) ?_ ?_
  rotate_left
  · intro w'
    go_simp
    with_reducible rfl
  rotate_left
  · simp only [Act.put, bg', bh', ca', i64_w, i32_w]
    rfl
  refine one_ (i := 43) (N := some 124) #[Y,Y,Y,Y,Y,Y,Y,Y,Y,Y,Y,Y,Y,Y,Y,Y,Y,Y,Y,Y,Y,Y,Y,Y,Y,Y,Y,Y,Y,Y,Y,Y,Y,Y,Y,Y,Y,Y,Y,Y,Y,Y,Y,Y,Y,Z,Z,Z,Z,Z,Z,Z,Z,Z,Z,Z,Z,Z,Z,Z,Z,Z,Z,Z,Z,Z,Z,Z,Z,Z] rfl rfl (one_of HT_.out (by kernel_rfl)) (by decide) (fun K hK => ?_)
  refine goes_ Try.func22 (by kernel_rfl) rfl #[.int .i64 t330] (by rfl) rfl rfl (by (try simp only [cb', cc', cd']); first | done | rfl | (simp only [ce', cf']; rfl)) ?_
  with_reducible refine (fanlightlaw07_num.calls t330 t346 _ A33.out).mono ?_
  rintro e w' ⟨rfl, ⟨nd, rfl⟩⟩
  refine ⟨_, rfl, ?_⟩
  refine hK.out _ _ ⟨(b' BK292.out 0).trans rfl, (b' BK292.out 1).trans rfl, (b' BK292.out 2).trans rfl, (b' BK302.out 0).trans rfl, (b' BK302.out 1).trans rfl, (b' BK302.out 2).trans rfl, (b' BK310.out 0).trans rfl, (b' BK310.out 1).trans rfl, (b' BK310.out 2).trans rfl, (b' BK324.out 0).trans rfl, (b' BK324.out 1).trans rfl, (b' BK324.out 2).trans rfl, (b' BK331.out 0).trans rfl, (b' BK331.out 1).trans rfl, (b' BK331.out 2).trans rfl, (b' BK338.out 0).trans rfl, (b' BK338.out 1).trans rfl, (b' BK338.out 2).trans rfl, (b' BK277.out 0).trans rfl, (b' BK277.out 1).trans rfl, (b' BK277.out 2).trans rfl, (b' BK265.out 0).trans rfl, (b' BK265.out 1).trans rfl, (b' BK265.out 2).trans rfl⟩ (fun hHeld => ?_)
  clear hK K
  refine norm_ (a' := ?_) ?_ ?_
  rotate_left
  · show Act.put _ (some 124) _ = _
    simp only [Act.put, bg', bh', ca', i64_w, i32_w]
    rfl
  refine pure_ (i := 45) (N := some 126) (v := ?_) (a' := ?_) #[Y,Y,Y,Y,Y,Y,Y,Y,Y,Y,Y,Y,Y,Y,Y,Y,Y,Y,Y,Y,Y,Y,Y,Y,Y,Y,Y,Y,Y,Y,Y,Y,Y,Y,Y,Y,Y,Y,Y,Y,Y,Y,Y,Y,Y,Y,Z,Z,Z,Z,Z,Z,Z,Z,Z,Z,Z,Z,Z,Z,Z,Z,Z,Z,Z,Z,Z,Z,Z,Z] rfl rfl (any_of HT_.out (by kernel_rfl)) (fun _ _ _ h => h) (Or.inl ⟨by rfl, ?_⟩) ?_ ?_
  rotate_left
  · intro w'
    go_simp
    with_reducible rfl
  rotate_left
  · simp only [Act.put, bg', bh', ca', i64_w, i32_w]
    rfl
  refine pure_ (i := 46) (N := some 127) (v := ?_) (a' := ?_) #[Y,Y,Y,Y,Y,Y,Y,Y,Y,Y,Y,Y,Y,Y,Y,Y,Y,Y,Y,Y,Y,Y,Y,Y,Y,Y,Y,Y,Y,Y,Y,Y,Y,Y,Y,Y,Y,Y,Y,Y,Y,Y,Y,Y,Y,Y,Y,Z,Z,Z,Z,Z,Z,Z,Z,Z,Z,Z,Z,Z,Z,Z,Z,Z,Z,Z,Z,Z,Z,Z] rfl rfl (any_of HT_.out (by kernel_rfl)) (fun _ _ _ h => h) (Or.inl ⟨by rfl, ?_⟩) ?_ ?_
  rotate_left
  · intro w'
    go_simp
    with_reducible rfl
  rotate_left
  · simp only [Act.put, bg', bh', ca', i64_w, i32_w]
    rfl
  refine pure_ (i := 47) (N := some 128) (v := ?_) (a' := ?_) #[Y,Y,Y,Y,Y,Y,Y,Y,Y,Y,Y,Y,Y,Y,Y,Y,Y,Y,Y,Y,Y,Y,Y,Y,Y,Y,Y,Y,Y,Y,Y,Y,Y,Y,Y,Y,Y,Y,Y,Y,Y,Y,Y,Y,Y,Y,Y,Y,Z,Z,Z,Z,Z,Z,Z,Z,Z,Z,Z,Z,Z,Z,Z,Z,Z,Z,Z,Z,Z,Z] rfl rfl (any_of HT_.out (by kernel_rfl)) (fun _ _ _ h => h) (Or.inl ⟨by rfl, ?_⟩) ?_ ?_
  rotate_left
  · intro w'
    go_simp
    with_reducible rfl
  rotate_left
  · simp only [Act.put, bg', bh', ca', i64_w, i32_w]
    rfl
  refine take_ (i := 48) (N := some 129) (v := ?_) (a' := ?_) #[Y,Y,Y,Y,Y,Y,Y,Y,Y,Y,Y,Y,Y,Y,Y,Y,Y,Y,Y,Y,Y,Y,Y,Y,Y,Y,Y,Y,Y,Y,Y,Y,Y,Y,Y,Y,Y,Y,Y,Y,Y,Y,Y,Y,Y,Y,Y,Y,Y,Z,Z,Z,Z,Z,Z,Z,Z,Z,Z,Z,Z,Z,Z,Z,Z,Z,Z,Z,Z,Z] rfl rfl (take_ofW HT_.out HW_.out (by kernel_rfl)) (fun _ _ _ h => h) (Or.inl ⟨by rfl, ?_⟩) hHeld ?_ ?_
  rotate_left
  · rintro w' ⟨s0, s1, s2, s3, s4, s5, s6, s7, s8, s9, s10, s11, s12, s13, s14, s15, s16, s17, s18, s19, s20, s21, s22, s23⟩
    go_simp
    with_reducible rfl
  rotate_left
  · simp only [Act.put, bg', bh', ca', i64_w, i32_w]
    rfl
  refine take_ (i := 51) (N := some 132) (v := ?_) (a' := ?_) #[Y,Y,Y,Y,Y,Y,Y,Y,Y,Y,Y,Y,Y,Y,Y,Y,Y,Y,Y,Y,Y,Y,Y,Y,Y,Y,Y,Y,Y,Y,Y,Y,Y,Y,Y,Y,Y,Y,Y,Y,Y,Y,Y,Y,Y,Y,Y,Y,Y,Z,Z,Y,Z,Z,Z,Z,Z,Z,Z,Z,Z,Z,Z,Z,Z,Z,Z,Z,Z,Z] rfl rfl (take_ofW HT_.out HW_.out (by kernel_rfl)) (fun _ _ _ h => h) (Or.inl ⟨by rfl, ?_⟩) hHeld ?_ ?_
  rotate_left
  · rintro w' ⟨s0, s1, s2, s3, s4, s5, s6, s7, s8, s9, s10, s11, s12, s13, s14, s15, s16, s17, s18, s19, s20, s21, s22, s23⟩
    go_simp
    with_reducible rfl
  rotate_left
  · simp only [Act.put, bg', bh', ca', i64_w, i32_w]
    rfl
  refine one_ (i := 49) (N := some 130) #[Y,Y,Y,Y,Y,Y,Y,Y,Y,Y,Y,Y,Y,Y,Y,Y,Y,Y,Y,Y,Y,Y,Y,Y,Y,Y,Y,Y,Y,Y,Y,Y,Y,Y,Y,Y,Y,Y,Y,Y,Y,Y,Y,Y,Y,Y,Y,Y,Y,Y,Z,Y,Z,Z,Z,Z,Z,Z,Z,Z,Z,Z,Z,Z,Z,Z,Z,Z,Z,Z] rfl rfl (one_of HT_.out (by kernel_rfl)) (by decide) (fun K hK => ?_)
  refine goes_ Try.func24 (by kernel_rfl) rfl #[.agg #[.int .i64 t266, .int .i64 t267, .slice Ao53 t268.length co53]] (by rfl) rfl rfl (by (try simp only [cb', cc', cd']); first | done | rfl | (simp only [ce', cf']; rfl)) ?_
  with_reducible refine (snap_Check.calls k t266 t267 _ _ t268 t347 _ ?side1 ?side2 A35.out).mono ?_
  (case side1 => repeat (first | exact (bb' HO270.out).2.2 | (with_reducible refine bf' ?_ _) | (with_reducible refine be' ?_ _) | (with_reducible refine Kd.C_drew ?_)))
  (case side2 => exact (bb' HO270.out).2.1)
  rintro e w125 ⟨rfl, hb⟩
  refine ⟨_, rfl, ?_⟩
  have n0_ := cg' (l' (by (with_reducible repeat (first | apply h' | apply g' | apply j')); exact HO270.out) hb)
  have n1_ := cg' (v' (by (with_reducible repeat (first | apply o' | apply n' | apply q')); exact HO273.out) hb)
  have n2_ := cg' (v' (by (with_reducible repeat (first | apply o' | apply n' | apply q')); exact HO276.out) hb)
  have n3_ := cg' (l' (by (with_reducible repeat (first | apply h' | apply g' | apply j')); exact HO280.out) hb)
  have n4_ := cg' (l' (by (with_reducible repeat (first | apply h' | apply g' | apply j')); exact HO284.out) hb)
  have n5_ := cg' (l' (by (with_reducible repeat (first | apply h' | apply g' | apply j')); exact HO290.out) hb)
  have n6_ := cg' (v' (by (with_reducible repeat (first | apply o' | apply n' | apply q')); exact HO295.out) hb)
  have n7_ := cg' (l' (by (with_reducible repeat (first | apply h' | apply g' | apply j')); exact HO300.out) hb)
  have n8_ := cg' (l' (by (with_reducible repeat (first | apply h' | apply g' | apply j')); exact HO307.out) hb)
  have n9_ := cg' (v' (by (with_reducible repeat (first | apply o' | apply n' | apply q')); exact HO313.out) hb)
  have n10_ := cg' (v' (by (with_reducible repeat (first | apply o' | apply n' | apply q')); exact HO316.out) hb)
  have n11_ := cg' (l' (by (with_reducible repeat (first | apply h' | apply g' | apply j')); exact HO321.out) hb)
  have n12_ := cg' (l' (by (with_reducible repeat (first | apply h' | apply g' | apply j')); exact HO329.out) hb)
  have n13_ := cg' (l' (by (with_reducible repeat (first | apply h' | apply g' | apply j')); exact HO336.out) hb)
  have n14_ := cg' (m' (g := gb265) (o := .cells #[.int .i64 a0_0, .int .i64 a0_1, .slice A0_2 l0_2.length c0_2] 24 (0, 0)) (by (with_reducible repeat (first | apply c' | apply f' | apply d')); exact BK265.out) hb)
  have n15_ := cg' (m' (g := gb277) (o := .cells #[.int .i64 t266, .int .i64 t267, .slice Ao53 t268.length co53] 25 (0, 0)) (by (with_reducible repeat (first | apply c' | apply f' | apply d')); exact BK277.out) hb)
  have n16_ := cg' (m' (g := gb292) (o := .cells #[.int .i64 t286, .int .i64 t287, .slice Ao63 t288.length co63] 25 (0, 0)) (by (with_reducible repeat (first | apply c' | apply f' | apply d')); exact BK292.out) hb)
  have n17_ := cg' (m' (g := gb302) (o := .cells #[.int .i64 t296, .int .i64 t297, .slice Ao73 t298.length co73] 24 (0, 0)) (by (with_reducible repeat (first | apply c' | apply f' | apply d')); exact BK302.out) hb)
  have n18_ := cg' (m' (g := gb310) (o := .cells #[.int .i64 t303, .int .i64 t304, .slice Ao82 t305.length co82] 25 (0, 0)) (by (with_reducible repeat (first | apply c' | apply f' | apply d')); exact BK310.out) hb)
  have n19_ := cg' (m' (g := gb324) (o := .cells #[.int .i64 t317, .int .i64 t318, .slice Ao96 t319.length co96] 24 (0, 0)) (by (with_reducible repeat (first | apply c' | apply f' | apply d')); exact BK324.out) hb)
  have n20_ := cg' (m' (g := gb331) (o := .cells #[.int .i64 t325, .int .i64 t326, .slice Ao106 t327.length co106] 25 (0, 0)) (by (with_reducible repeat (first | apply c' | apply f' | apply d')); exact BK331.out) hb)
  have n21_ := cg' (m' (g := gb338) (o := .cells #[.int .i64 t332, .int .i64 t333, .slice Ao117 t334.length co117] 24 (0, 0)) (by (with_reducible repeat (first | apply c' | apply f' | apply d')); exact BK338.out) hb)
  have n22_ := cg' (ah' (by repeat (first | (with_reducible first | exact HB.out | apply s' | apply p' | apply r' | refine e' ?_ GE265.out | refine e' ?_ GE277.out | refine e' ?_ GE292.out | refine e' ?_ GE302.out | refine e' ?_ GE310.out | refine e' ?_ GE324.out | refine e' ?_ GE331.out | refine e' ?_ GE338.out) | exact HB.out)) hb)
  clear HO270
  clear HO273
  clear HO276
  clear HO280
  clear HO284
  clear HO290
  clear HO295
  clear HO300
  clear HO307
  clear HO313
  clear HO316
  clear HO321
  clear HO329
  clear HO336
  clear BK265
  clear BK277
  clear BK292
  clear BK302
  clear BK310
  clear BK324
  clear BK331
  clear BK338
  clear HB
  have HO270 := n0_
  have HO273 := n1_
  have HO276 := n2_
  have HO280 := n3_
  have HO284 := n4_
  have HO290 := n5_
  have HO295 := n6_
  have HO300 := n7_
  have HO307 := n8_
  have HO313 := n9_
  have HO316 := n10_
  have HO321 := n11_
  have HO329 := n12_
  have HO336 := n13_
  have BK265 := n14_
  have BK277 := n15_
  have BK292 := n16_
  have BK302 := n17_
  have BK310 := n18_
  have BK324 := n19_
  have BK331 := n20_
  have BK338 := n21_
  have HB := n22_
  clear n0_ n1_ n2_ n3_ n4_ n5_ n6_ n7_ n8_ n9_ n10_ n11_ n12_ n13_ n14_ n15_ n16_ n17_ n18_ n19_ n20_ n21_ n22_
  (try clear hb)
  (try clear hb2)
  (try clear hk)
  (try clear hi)
  refine hK.out _ _ ⟨(b' BK292.out 0).trans rfl, (b' BK292.out 1).trans rfl, (b' BK292.out 2).trans rfl, (b' BK302.out 0).trans rfl, (b' BK302.out 1).trans rfl, (b' BK302.out 2).trans rfl, (b' BK310.out 0).trans rfl, (b' BK310.out 1).trans rfl, (b' BK310.out 2).trans rfl, (b' BK324.out 0).trans rfl, (b' BK324.out 1).trans rfl, (b' BK324.out 2).trans rfl, (b' BK331.out 0).trans rfl, (b' BK331.out 1).trans rfl, (b' BK331.out 2).trans rfl, (b' BK338.out 0).trans rfl, (b' BK338.out 1).trans rfl, (b' BK338.out 2).trans rfl, (b' BK277.out 0).trans rfl, (b' BK277.out 1).trans rfl, (b' BK277.out 2).trans rfl, (b' BK265.out 0).trans rfl, (b' BK265.out 1).trans rfl, (b' BK265.out 2).trans rfl⟩ (fun hHeld => ?_)
  clear hK K
  refine norm_ (a' := ?_) ?_ ?_
  rotate_left
  · show Act.put _ (some 130) _ = _
    simp only [Act.put, bg', bh', ca', i64_w, i32_w]
    rfl
  refine one_ (i := 50) (N := some 131) #[Y,Y,Y,Y,Y,Y,Y,Y,Y,Y,Y,Y,Y,Y,Y,Y,Y,Y,Y,Y,Y,Y,Y,Y,Y,Y,Y,Y,Y,Y,Y,Y,Y,Y,Y,Y,Y,Y,Y,Y,Y,Y,Y,Y,Y,Y,Y,Y,Y,Y,Y,Y,Z,Z,Z,Z,Z,Z,Z,Z,Z,Z,Z,Z,Z,Z,Z,Z,Z,Z] rfl rfl (one_of HT_.out (by kernel_rfl)) (by decide) (fun K hK => ?_)
  refine goes_ Try.func22 (by kernel_rfl) rfl #[.int .i64 t347] (by rfl) rfl rfl (by (try simp only [cb', cc', cd']); first | done | rfl | (simp only [ce', cf']; rfl)) ?_
  with_reducible refine (fanlightlaw07_num.calls t347 t348 _ A36.out).mono ?_
  rintro e w' ⟨rfl, ⟨nd, rfl⟩⟩
  refine ⟨_, rfl, ?_⟩
  refine hK.out _ _ ⟨(b' BK292.out 0).trans rfl, (b' BK292.out 1).trans rfl, (b' BK292.out 2).trans rfl, (b' BK302.out 0).trans rfl, (b' BK302.out 1).trans rfl, (b' BK302.out 2).trans rfl, (b' BK310.out 0).trans rfl, (b' BK310.out 1).trans rfl, (b' BK310.out 2).trans rfl, (b' BK324.out 0).trans rfl, (b' BK324.out 1).trans rfl, (b' BK324.out 2).trans rfl, (b' BK331.out 0).trans rfl, (b' BK331.out 1).trans rfl, (b' BK331.out 2).trans rfl, (b' BK338.out 0).trans rfl, (b' BK338.out 1).trans rfl, (b' BK338.out 2).trans rfl, (b' BK277.out 0).trans rfl, (b' BK277.out 1).trans rfl, (b' BK277.out 2).trans rfl, (b' BK265.out 0).trans rfl, (b' BK265.out 1).trans rfl, (b' BK265.out 2).trans rfl⟩ (fun hHeld => ?_)
  clear hK K
  refine norm_ (a' := ?_) ?_ ?_
  rotate_left
  · show Act.put _ (some 131) _ = _
    simp only [Act.put, bg', bh', ca', i64_w, i32_w]
    rfl
  refine one_ (i := 52) (N := some 133) #[Y,Y,Y,Y,Y,Y,Y,Y,Y,Y,Y,Y,Y,Y,Y,Y,Y,Y,Y,Y,Y,Y,Y,Y,Y,Y,Y,Y,Y,Y,Y,Y,Y,Y,Y,Y,Y,Y,Y,Y,Y,Y,Y,Y,Y,Y,Y,Y,Y,Y,Y,Y,Y,Z,Z,Z,Z,Z,Z,Z,Z,Z,Z,Z,Z,Z,Z,Z,Z,Z] rfl rfl (one_of HT_.out (by kernel_rfl)) (by decide) (fun K hK => ?_)
  refine goes_ Try.func25 (by kernel_rfl) rfl #[.agg #[.int .i64 a0_0, .int .i64 a0_1, .slice A0_2 l0_2.length c0_2]] (by rfl) rfl rfl (by (try simp only [cb', cc', cd']); first | done | rfl | (simp only [ce', cf']; rfl)) ?_
  with_reducible refine (fanlightref07_Check.calls k a0_0 a0_1 _ _ l0_2 t349 _ ?side1 ?side2 A37.out).mono ?_
  (case side1 => repeat (first | exact (Kd.C_below HR0_2.out (by repeat (first | (with_reducible first | exact HB.out | apply s' | apply p' | apply r' | refine e' ?_ GE265.out | refine e' ?_ GE277.out | refine e' ?_ GE292.out | refine e' ?_ GE302.out | refine e' ?_ GE310.out | refine e' ?_ GE324.out | refine e' ?_ GE331.out | refine e' ?_ GE338.out) | exact HB.out))) | (with_reducible refine bf' ?_ _) | (with_reducible refine be' ?_ _) | (with_reducible refine Kd.C_drew ?_)))
  (case side2 => exact HC0_2.out)
  rintro e w126 ⟨rfl, hb⟩
  refine ⟨_, rfl, ?_⟩
  have n0_ := cg' (l' (by (with_reducible repeat (first | apply h' | apply g' | apply j')); exact HO270.out) hb)
  have n1_ := cg' (v' (by (with_reducible repeat (first | apply o' | apply n' | apply q')); exact HO273.out) hb)
  have n2_ := cg' (v' (by (with_reducible repeat (first | apply o' | apply n' | apply q')); exact HO276.out) hb)
  have n3_ := cg' (l' (by (with_reducible repeat (first | apply h' | apply g' | apply j')); exact HO280.out) hb)
  have n4_ := cg' (l' (by (with_reducible repeat (first | apply h' | apply g' | apply j')); exact HO284.out) hb)
  have n5_ := cg' (l' (by (with_reducible repeat (first | apply h' | apply g' | apply j')); exact HO290.out) hb)
  have n6_ := cg' (v' (by (with_reducible repeat (first | apply o' | apply n' | apply q')); exact HO295.out) hb)
  have n7_ := cg' (l' (by (with_reducible repeat (first | apply h' | apply g' | apply j')); exact HO300.out) hb)
  have n8_ := cg' (l' (by (with_reducible repeat (first | apply h' | apply g' | apply j')); exact HO307.out) hb)
  have n9_ := cg' (v' (by (with_reducible repeat (first | apply o' | apply n' | apply q')); exact HO313.out) hb)
  have n10_ := cg' (v' (by (with_reducible repeat (first | apply o' | apply n' | apply q')); exact HO316.out) hb)
  have n11_ := cg' (l' (by (with_reducible repeat (first | apply h' | apply g' | apply j')); exact HO321.out) hb)
  have n12_ := cg' (l' (by (with_reducible repeat (first | apply h' | apply g' | apply j')); exact HO329.out) hb)
  have n13_ := cg' (l' (by (with_reducible repeat (first | apply h' | apply g' | apply j')); exact HO336.out) hb)
  have n14_ := cg' (m' (g := gb265) (o := .cells #[.int .i64 a0_0, .int .i64 a0_1, .slice A0_2 l0_2.length c0_2] 24 (0, 0)) (by (with_reducible repeat (first | apply c' | apply f' | apply d')); exact BK265.out) hb)
  have n15_ := cg' (m' (g := gb277) (o := .cells #[.int .i64 t266, .int .i64 t267, .slice Ao53 t268.length co53] 25 (0, 0)) (by (with_reducible repeat (first | apply c' | apply f' | apply d')); exact BK277.out) hb)
  have n16_ := cg' (m' (g := gb292) (o := .cells #[.int .i64 t286, .int .i64 t287, .slice Ao63 t288.length co63] 25 (0, 0)) (by (with_reducible repeat (first | apply c' | apply f' | apply d')); exact BK292.out) hb)
  have n17_ := cg' (m' (g := gb302) (o := .cells #[.int .i64 t296, .int .i64 t297, .slice Ao73 t298.length co73] 24 (0, 0)) (by (with_reducible repeat (first | apply c' | apply f' | apply d')); exact BK302.out) hb)
  have n18_ := cg' (m' (g := gb310) (o := .cells #[.int .i64 t303, .int .i64 t304, .slice Ao82 t305.length co82] 25 (0, 0)) (by (with_reducible repeat (first | apply c' | apply f' | apply d')); exact BK310.out) hb)
  have n19_ := cg' (m' (g := gb324) (o := .cells #[.int .i64 t317, .int .i64 t318, .slice Ao96 t319.length co96] 24 (0, 0)) (by (with_reducible repeat (first | apply c' | apply f' | apply d')); exact BK324.out) hb)
  have n20_ := cg' (m' (g := gb331) (o := .cells #[.int .i64 t325, .int .i64 t326, .slice Ao106 t327.length co106] 25 (0, 0)) (by (with_reducible repeat (first | apply c' | apply f' | apply d')); exact BK331.out) hb)
  have n21_ := cg' (m' (g := gb338) (o := .cells #[.int .i64 t332, .int .i64 t333, .slice Ao117 t334.length co117] 24 (0, 0)) (by (with_reducible repeat (first | apply c' | apply f' | apply d')); exact BK338.out) hb)
  have n22_ := cg' (ah' (by repeat (first | (with_reducible first | exact HB.out | apply s' | apply p' | apply r' | refine e' ?_ GE265.out | refine e' ?_ GE277.out | refine e' ?_ GE292.out | refine e' ?_ GE302.out | refine e' ?_ GE310.out | refine e' ?_ GE324.out | refine e' ?_ GE331.out | refine e' ?_ GE338.out) | exact HB.out)) hb)
  clear HO270
  clear HO273
  clear HO276
  clear HO280
  clear HO284
  clear HO290
  clear HO295
  clear HO300
  clear HO307
  clear HO313
  clear HO316
  clear HO321
  clear HO329
  clear HO336
  clear BK265
  clear BK277
  clear BK292
  clear BK302
  clear BK310
  clear BK324
  clear BK331
  clear BK338
  clear HB
  have HO270 := n0_
  have HO273 := n1_
  have HO276 := n2_
  have HO280 := n3_
  have HO284 := n4_
  have HO290 := n5_
  have HO295 := n6_
  have HO300 := n7_
  have HO307 := n8_
  have HO313 := n9_
  have HO316 := n10_
  have HO321 := n11_
  have HO329 := n12_
  have HO336 := n13_
  have BK265 := n14_
  have BK277 := n15_
  have BK292 := n16_
  have BK302 := n17_
  have BK310 := n18_
  have BK324 := n19_
  have BK331 := n20_
  have BK338 := n21_
  have HB := n22_
  clear n0_ n1_ n2_ n3_ n4_ n5_ n6_ n7_ n8_ n9_ n10_ n11_ n12_ n13_ n14_ n15_ n16_ n17_ n18_ n19_ n20_ n21_ n22_
  (try clear hb)
  (try clear hb2)
  (try clear hk)
  (try clear hi)
  refine hK.out _ _ ⟨(b' BK292.out 0).trans rfl, (b' BK292.out 1).trans rfl, (b' BK292.out 2).trans rfl, (b' BK302.out 0).trans rfl, (b' BK302.out 1).trans rfl, (b' BK302.out 2).trans rfl, (b' BK310.out 0).trans rfl, (b' BK310.out 1).trans rfl, (b' BK310.out 2).trans rfl, (b' BK324.out 0).trans rfl, (b' BK324.out 1).trans rfl, (b' BK324.out 2).trans rfl, (b' BK331.out 0).trans rfl, (b' BK331.out 1).trans rfl, (b' BK331.out 2).trans rfl, (b' BK338.out 0).trans rfl, (b' BK338.out 1).trans rfl, (b' BK338.out 2).trans rfl, (b' BK277.out 0).trans rfl, (b' BK277.out 1).trans rfl, (b' BK277.out 2).trans rfl, (b' BK265.out 0).trans rfl, (b' BK265.out 1).trans rfl, (b' BK265.out 2).trans rfl⟩ (fun hHeld => ?_)
  clear hK K
  refine norm_ (a' := ?_) ?_ ?_
  rotate_left
  · show Act.put _ (some 133) _ = _
    simp only [Act.put, bg', bh', ca', i64_w, i32_w]
    rfl
  refine pure_ (i := 53) (N := some 134) (v := ?_) (a' := ?_) #[Y,Y,Y,Y,Y,Y,Y,Y,Y,Y,Y,Y,Y,Y,Y,Y,Y,Y,Y,Y,Y,Y,Y,Y,Y,Y,Y,Y,Y,Y,Y,Y,Y,Y,Y,Y,Y,Y,Y,Y,Y,Y,Y,Y,Y,Y,Y,Y,Y,Y,Y,Y,Y,Y,Z,Z,Z,Z,Z,Z,Z,Z,Z,Z,Z,Z,Z,Z,Z,Z] rfl rfl (any_of HT_.out (by kernel_rfl)) (fun _ _ _ h => h) (Or.inl ⟨by rfl, ?_⟩) ?_ ?_
  rotate_left
  · intro w'
    go_simp
    with_reducible rfl
  rotate_left
  · simp only [Act.put, bg', bh', ca', i64_w, i32_w]
    rfl
  refine pure_ (i := 54) (N := some 135) (v := ?_) (a' := ?_) #[Y,Y,Y,Y,Y,Y,Y,Y,Y,Y,Y,Y,Y,Y,Y,Y,Y,Y,Y,Y,Y,Y,Y,Y,Y,Y,Y,Y,Y,Y,Y,Y,Y,Y,Y,Y,Y,Y,Y,Y,Y,Y,Y,Y,Y,Y,Y,Y,Y,Y,Y,Y,Y,Y,Y,Z,Z,Z,Z,Z,Z,Z,Z,Z,Z,Z,Z,Z,Z,Z] rfl rfl (any_of HT_.out (by kernel_rfl)) (fun _ _ _ h => h) (Or.inl ⟨by rfl, ?_⟩) ?_ ?_
  rotate_left
  · intro w'
    go_simp
    with_reducible rfl
  rotate_left
  · simp only [Act.put, bg', bh', ca', i64_w, i32_w]
    rfl
  refine pure_ (i := 55) (N := some 136) (v := ?_) (a' := ?_) #[Y,Y,Y,Y,Y,Y,Y,Y,Y,Y,Y,Y,Y,Y,Y,Y,Y,Y,Y,Y,Y,Y,Y,Y,Y,Y,Y,Y,Y,Y,Y,Y,Y,Y,Y,Y,Y,Y,Y,Y,Y,Y,Y,Y,Y,Y,Y,Y,Y,Y,Y,Y,Y,Y,Y,Y,Z,Z,Z,Z,Z,Z,Z,Z,Z,Z,Z,Z,Z,Z] rfl rfl (any_of HT_.out (by kernel_rfl)) (fun _ _ _ h => h) (Or.inl ⟨by rfl, ?_⟩) ?_ ?_
  rotate_left
  · intro w'
    go_simp
    with_reducible rfl
  rotate_left
  · simp only [Act.put, bg', bh', ca', i64_w, i32_w]
    rfl
  refine take_ (i := 56) (N := some 137) (v := ?_) (a' := ?_) #[Y,Y,Y,Y,Y,Y,Y,Y,Y,Y,Y,Y,Y,Y,Y,Y,Y,Y,Y,Y,Y,Y,Y,Y,Y,Y,Y,Y,Y,Y,Y,Y,Y,Y,Y,Y,Y,Y,Y,Y,Y,Y,Y,Y,Y,Y,Y,Y,Y,Y,Y,Y,Y,Y,Y,Y,Y,Z,Z,Z,Z,Z,Z,Z,Z,Z,Z,Z,Z,Z] rfl rfl (take_ofW HT_.out HW_.out (by kernel_rfl)) (fun _ _ _ h => h) (Or.inl ⟨by rfl, ?_⟩) hHeld ?_ ?_
  rotate_left
  · rintro w' ⟨s0, s1, s2, s3, s4, s5, s6, s7, s8, s9, s10, s11, s12, s13, s14, s15, s16, s17, s18, s19, s20, s21, s22, s23⟩
    go_simp
    with_reducible rfl
  rotate_left
  · simp only [Act.put, bg', bh', ca', i64_w, i32_w]
    rfl
  refine take_ (i := 57) (N := some 138) (v := ?_) (a' := ?_) #[Y,Y,Y,Y,Y,Y,Y,Y,Y,Y,Y,Y,Y,Y,Y,Y,Y,Y,Y,Y,Y,Y,Y,Y,Y,Y,Y,Y,Y,Y,Y,Y,Y,Y,Y,Y,Y,Y,Y,Y,Y,Y,Y,Y,Y,Y,Y,Y,Y,Y,Y,Y,Y,Y,Y,Y,Y,Y,Z,Z,Z,Z,Z,Z,Z,Z,Z,Z,Z,Z] rfl rfl (take_ofW HT_.out HW_.out (by kernel_rfl)) (fun _ _ _ h => h) (Or.inl ⟨by rfl, ?_⟩) hHeld ?_ ?_
  rotate_left
  · rintro w' ⟨s0, s1, s2, s3, s4, s5, s6, s7, s8, s9, s10, s11, s12, s13, s14, s15, s16, s17, s18, s19, s20, s21, s22, s23⟩
    go_simp
    with_reducible rfl
  rotate_left
  · simp only [Act.put, bg', bh', ca', i64_w, i32_w]
    rfl
  refine one_ (i := 58) (N := some 139) #[Y,Y,Y,Y,Y,Y,Y,Y,Y,Y,Y,Y,Y,Y,Y,Y,Y,Y,Y,Y,Y,Y,Y,Y,Y,Y,Y,Y,Y,Y,Y,Y,Y,Y,Y,Y,Y,Y,Y,Y,Y,Y,Y,Y,Y,Y,Y,Y,Y,Y,Y,Y,Y,Y,Y,Y,Y,Y,Y,Z,Z,Z,Z,Z,Z,Z,Z,Z,Z,Z] rfl rfl (one_of HT_.out (by kernel_rfl)) (by decide) (fun K hK => ?_)
  refine goes_ Try.func23 (by kernel_rfl) rfl #[.agg #[.int .i64 t266, .int .i64 t267, .slice Ao53 t268.length co53], .agg #[.int .i64 a0_0, .int .i64 a0_1, .slice A0_2 l0_2.length c0_2]] (by rfl) rfl rfl (by (try simp only [cb', cc', cd']); first | done | rfl | (simp only [ce', cf']; rfl)) ?_
  with_reducible refine (fanlightlaw07_same.calls t266 t267 _ _ t268 a0_0 a0_1 _ _ l0_2 true _ ?side1 ?side2 ?side3 ?side4 A39.out).mono ?_
  (case side1 => repeat (first | exact (bb' HO270.out).2.2 | (with_reducible refine bf' ?_ _) | (with_reducible refine be' ?_ _) | (with_reducible refine Kd.C_drew ?_)))
  (case side2 => exact (bb' HO270.out).2.1)
  (case side3 => repeat (first | exact (Kd.C_below HR0_2.out HB.out) | (with_reducible refine bf' ?_ _) | (with_reducible refine be' ?_ _) | (with_reducible refine Kd.C_drew ?_)))
  (case side4 => exact HC0_2.out)
  rintro e w127 ⟨rfl, hb⟩
  refine ⟨_, rfl, ?_⟩
  have n0_ := cg' (l' (by (with_reducible repeat (first | apply h' | apply g' | apply j')); exact HO270.out) hb)
  have n1_ := cg' (v' (by (with_reducible repeat (first | apply o' | apply n' | apply q')); exact HO273.out) hb)
  have n2_ := cg' (v' (by (with_reducible repeat (first | apply o' | apply n' | apply q')); exact HO276.out) hb)
  have n3_ := cg' (l' (by (with_reducible repeat (first | apply h' | apply g' | apply j')); exact HO280.out) hb)
  have n4_ := cg' (l' (by (with_reducible repeat (first | apply h' | apply g' | apply j')); exact HO284.out) hb)
  have n5_ := cg' (l' (by (with_reducible repeat (first | apply h' | apply g' | apply j')); exact HO290.out) hb)
  have n6_ := cg' (v' (by (with_reducible repeat (first | apply o' | apply n' | apply q')); exact HO295.out) hb)
  have n7_ := cg' (l' (by (with_reducible repeat (first | apply h' | apply g' | apply j')); exact HO300.out) hb)
  have n8_ := cg' (l' (by (with_reducible repeat (first | apply h' | apply g' | apply j')); exact HO307.out) hb)
  have n9_ := cg' (v' (by (with_reducible repeat (first | apply o' | apply n' | apply q')); exact HO313.out) hb)
  have n10_ := cg' (v' (by (with_reducible repeat (first | apply o' | apply n' | apply q')); exact HO316.out) hb)
  have n11_ := cg' (l' (by (with_reducible repeat (first | apply h' | apply g' | apply j')); exact HO321.out) hb)
  have n12_ := cg' (l' (by (with_reducible repeat (first | apply h' | apply g' | apply j')); exact HO329.out) hb)
  have n13_ := cg' (l' (by (with_reducible repeat (first | apply h' | apply g' | apply j')); exact HO336.out) hb)
  have n14_ := cg' (m' (g := gb265) (o := .cells #[.int .i64 a0_0, .int .i64 a0_1, .slice A0_2 l0_2.length c0_2] 24 (0, 0)) (by (with_reducible repeat (first | apply c' | apply f' | apply d')); exact BK265.out) hb)
  have n15_ := cg' (m' (g := gb277) (o := .cells #[.int .i64 t266, .int .i64 t267, .slice Ao53 t268.length co53] 25 (0, 0)) (by (with_reducible repeat (first | apply c' | apply f' | apply d')); exact BK277.out) hb)
  have n16_ := cg' (m' (g := gb292) (o := .cells #[.int .i64 t286, .int .i64 t287, .slice Ao63 t288.length co63] 25 (0, 0)) (by (with_reducible repeat (first | apply c' | apply f' | apply d')); exact BK292.out) hb)
  have n17_ := cg' (m' (g := gb302) (o := .cells #[.int .i64 t296, .int .i64 t297, .slice Ao73 t298.length co73] 24 (0, 0)) (by (with_reducible repeat (first | apply c' | apply f' | apply d')); exact BK302.out) hb)
  have n18_ := cg' (m' (g := gb310) (o := .cells #[.int .i64 t303, .int .i64 t304, .slice Ao82 t305.length co82] 25 (0, 0)) (by (with_reducible repeat (first | apply c' | apply f' | apply d')); exact BK310.out) hb)
  have n19_ := cg' (m' (g := gb324) (o := .cells #[.int .i64 t317, .int .i64 t318, .slice Ao96 t319.length co96] 24 (0, 0)) (by (with_reducible repeat (first | apply c' | apply f' | apply d')); exact BK324.out) hb)
  have n20_ := cg' (m' (g := gb331) (o := .cells #[.int .i64 t325, .int .i64 t326, .slice Ao106 t327.length co106] 25 (0, 0)) (by (with_reducible repeat (first | apply c' | apply f' | apply d')); exact BK331.out) hb)
  have n21_ := cg' (m' (g := gb338) (o := .cells #[.int .i64 t332, .int .i64 t333, .slice Ao117 t334.length co117] 24 (0, 0)) (by (with_reducible repeat (first | apply c' | apply f' | apply d')); exact BK338.out) hb)
  have n22_ := cg' (ah' (by repeat (first | (with_reducible first | exact HB.out | apply s' | apply p' | apply r' | refine e' ?_ GE265.out | refine e' ?_ GE277.out | refine e' ?_ GE292.out | refine e' ?_ GE302.out | refine e' ?_ GE310.out | refine e' ?_ GE324.out | refine e' ?_ GE331.out | refine e' ?_ GE338.out) | exact HB.out)) hb)
  clear HO270
  clear HO273
  clear HO276
  clear HO280
  clear HO284
  clear HO290
  clear HO295
  clear HO300
  clear HO307
  clear HO313
  clear HO316
  clear HO321
  clear HO329
  clear HO336
  clear BK265
  clear BK277
  clear BK292
  clear BK302
  clear BK310
  clear BK324
  clear BK331
  clear BK338
  clear HB
  have HO270 := n0_
  have HO273 := n1_
  have HO276 := n2_
  have HO280 := n3_
  have HO284 := n4_
  have HO290 := n5_
  have HO295 := n6_
  have HO300 := n7_
  have HO307 := n8_
  have HO313 := n9_
  have HO316 := n10_
  have HO321 := n11_
  have HO329 := n12_
  have HO336 := n13_
  have BK265 := n14_
  have BK277 := n15_
  have BK292 := n16_
  have BK302 := n17_
  have BK310 := n18_
  have BK324 := n19_
  have BK331 := n20_
  have BK338 := n21_
  have HB := n22_
  clear n0_ n1_ n2_ n3_ n4_ n5_ n6_ n7_ n8_ n9_ n10_ n11_ n12_ n13_ n14_ n15_ n16_ n17_ n18_ n19_ n20_ n21_ n22_
  (try clear hb)
  (try clear hb2)
  (try clear hk)
  (try clear hi)
  refine hK.out _ _ ⟨(b' BK292.out 0).trans rfl, (b' BK292.out 1).trans rfl, (b' BK292.out 2).trans rfl, (b' BK302.out 0).trans rfl, (b' BK302.out 1).trans rfl, (b' BK302.out 2).trans rfl, (b' BK310.out 0).trans rfl, (b' BK310.out 1).trans rfl, (b' BK310.out 2).trans rfl, (b' BK324.out 0).trans rfl, (b' BK324.out 1).trans rfl, (b' BK324.out 2).trans rfl, (b' BK331.out 0).trans rfl, (b' BK331.out 1).trans rfl, (b' BK331.out 2).trans rfl, (b' BK338.out 0).trans rfl, (b' BK338.out 1).trans rfl, (b' BK338.out 2).trans rfl, (b' BK277.out 0).trans rfl, (b' BK277.out 1).trans rfl, (b' BK277.out 2).trans rfl, (b' BK265.out 0).trans rfl, (b' BK265.out 1).trans rfl, (b' BK265.out 2).trans rfl⟩ (fun hHeld => ?_)
  clear hK K
  refine norm_ (a' := ?_) ?_ ?_
  rotate_left
  · show Act.put _ (some 139) _ = _
    simp only [Act.put, bg', bh', ca', i64_w, i32_w]
    rfl
  refine pure_ (i := 59) (N := some 140) (v := ?_) (a' := ?_) #[Y,Y,Y,Y,Y,Y,Y,Y,Y,Y,Y,Y,Y,Y,Y,Y,Y,Y,Y,Y,Y,Y,Y,Y,Y,Y,Y,Y,Y,Y,Y,Y,Y,Y,Y,Y,Y,Y,Y,Y,Y,Y,Y,Y,Y,Y,Y,Y,Y,Y,Y,Y,Y,Y,Y,Y,Y,Y,Y,Y,Z,Z,Z,Z,Z,Z,Z,Z,Z,Z] rfl rfl (any_of HT_.out (by kernel_rfl)) (fun _ _ _ h => h) (Or.inl ⟨by rfl, ?_⟩) ?_ ?_
  rotate_left
  · intro w'
    go_simp
    with_reducible rfl
  rotate_left
  · simp only [Act.put, bg', bh', ca', i64_w, i32_w]
    rfl
  refine pure_ (i := 60) (N := some 141) (v := ?_) (a' := ?_) #[Y,Y,Y,Y,Y,Y,Y,Y,Y,Y,Y,Y,Y,Y,Y,Y,Y,Y,Y,Y,Y,Y,Y,Y,Y,Y,Y,Y,Y,Y,Y,Y,Y,Y,Y,Y,Y,Y,Y,Y,Y,Y,Y,Y,Y,Y,Y,Y,Y,Y,Y,Y,Y,Y,Y,Y,Y,Y,Y,Y,Y,Z,Z,Z,Z,Z,Z,Z,Z,Z] rfl rfl (any_of HT_.out (by kernel_rfl)) (fun _ _ _ h => h) (Or.inl ⟨by rfl, ?_⟩) ?_ ?_
  rotate_left
  · intro w'
    go_simp
    with_reducible rfl
  rotate_left
  · simp only [Act.put, bg', bh', ca', i64_w, i32_w]
    rfl
  refine pure_ (i := 61) (N := some 142) (v := ?_) (a' := ?_) #[Y,Y,Y,Y,Y,Y,Y,Y,Y,Y,Y,Y,Y,Y,Y,Y,Y,Y,Y,Y,Y,Y,Y,Y,Y,Y,Y,Y,Y,Y,Y,Y,Y,Y,Y,Y,Y,Y,Y,Y,Y,Y,Y,Y,Y,Y,Y,Y,Y,Y,Y,Y,Y,Y,Y,Y,Y,Y,Y,Y,Y,Y,Z,Z,Z,Z,Z,Z,Z,Z] rfl rfl (any_of HT_.out (by kernel_rfl)) (fun _ _ _ h => h) (Or.inl ⟨by rfl, ?_⟩) ?_ ?_
  rotate_left
  · intro w'
    go_simp
    with_reducible rfl
  rotate_left
  · simp only [Act.put, bg', bh', ca', i64_w, i32_w]
    rfl
  refine pure_ (i := 62) (N := some 143) (v := ?_) (a' := ?_) #[Y,Y,Y,Y,Y,Y,Y,Y,Y,Y,Y,Y,Y,Y,Y,Y,Y,Y,Y,Y,Y,Y,Y,Y,Y,Y,Y,Y,Y,Y,Y,Y,Y,Y,Y,Y,Y,Y,Y,Y,Y,Y,Y,Y,Y,Y,Y,Y,Y,Y,Y,Y,Y,Y,Y,Y,Y,Y,Y,Y,Y,Y,Y,Z,Z,Z,Z,Z,Z,Z] rfl rfl (any_of HT_.out (by kernel_rfl)) (fun _ _ _ h => h) (Or.inl ⟨by rfl, ?_⟩) ?_ ?_
  rotate_left
  · intro w'
    go_simp
    with_reducible rfl
  rotate_left
  · simp only [Act.put, bg', bh', ca', i64_w, i32_w]
    rfl
  refine one_ (i := 63) (N := some 144) #[Y,Y,Y,Y,Y,Y,Y,Y,Y,Y,Y,Y,Y,Y,Y,Y,Y,Y,Y,Y,Y,Y,Y,Y,Y,Y,Y,Y,Y,Y,Y,Y,Y,Y,Y,Y,Y,Y,Y,Y,Y,Y,Y,Y,Y,Y,Y,Y,Y,Y,Y,Y,Y,Y,Y,Y,Y,Y,Y,Y,Y,Y,Y,Y,Z,Z,Z,Z,Z,Z] rfl rfl (one_of HT_.out (by kernel_rfl)) (by decide) (fun K hK => ?_)
  refine goes_ Try.func14 (by kernel_rfl) rfl #[.slice A1 l1.length c1] (by rfl) rfl rfl (by (try simp only [cb', cc', cd']); first | done | rfl | (simp only [ce', cf']; rfl)) ?_
  with_reducible refine (fanlightlaw07_slot.calls (fun k_ => k_ < w.heap.size) _ _ l1 t351 _ ?side1 A41.out).mono ?_
  (case side1 => exact Kd.V_mk HC1.out (Kd.F_below (Kd.C_F (Kd.heap_int .u8) HR1.out) (by repeat (first | (with_reducible first | exact HB.out | apply s' | apply p' | apply r' | refine e' ?_ GE265.out | refine e' ?_ GE277.out | refine e' ?_ GE292.out | refine e' ?_ GE302.out | refine e' ?_ GE310.out | refine e' ?_ GE324.out | refine e' ?_ GE331.out | refine e' ?_ GE338.out) | exact HB.out))))
  rintro e w128 ⟨v352, rfl, ho0, hb⟩
  refine ⟨_, rfl, ?_⟩
  have n0_ := cg' (l' (by (with_reducible repeat (first | apply h' | apply g' | apply j')); exact HO270.out) hb)
  have n1_ := cg' (v' (by (with_reducible repeat (first | apply o' | apply n' | apply q')); exact HO273.out) hb)
  have n2_ := cg' (v' (by (with_reducible repeat (first | apply o' | apply n' | apply q')); exact HO276.out) hb)
  have n3_ := cg' (l' (by (with_reducible repeat (first | apply h' | apply g' | apply j')); exact HO280.out) hb)
  have n4_ := cg' (l' (by (with_reducible repeat (first | apply h' | apply g' | apply j')); exact HO284.out) hb)
  have n5_ := cg' (l' (by (with_reducible repeat (first | apply h' | apply g' | apply j')); exact HO290.out) hb)
  have n6_ := cg' (v' (by (with_reducible repeat (first | apply o' | apply n' | apply q')); exact HO295.out) hb)
  have n7_ := cg' (l' (by (with_reducible repeat (first | apply h' | apply g' | apply j')); exact HO300.out) hb)
  have n8_ := cg' (l' (by (with_reducible repeat (first | apply h' | apply g' | apply j')); exact HO307.out) hb)
  have n9_ := cg' (v' (by (with_reducible repeat (first | apply o' | apply n' | apply q')); exact HO313.out) hb)
  have n10_ := cg' (v' (by (with_reducible repeat (first | apply o' | apply n' | apply q')); exact HO316.out) hb)
  have n11_ := cg' (l' (by (with_reducible repeat (first | apply h' | apply g' | apply j')); exact HO321.out) hb)
  have n12_ := cg' (l' (by (with_reducible repeat (first | apply h' | apply g' | apply j')); exact HO329.out) hb)
  have n13_ := cg' (l' (by (with_reducible repeat (first | apply h' | apply g' | apply j')); exact HO336.out) hb)
  have n14_ := cg' (Kd.V_lower (ab' (ok' := fun k_ => some k_ ≠ (.slice Ao53 t268.length co53 : Value).ownBlock ∧ some k_ ≠ (.slice Ao120 t278.length co120 : Value).ownBlock ∧ some k_ ≠ (.slice Ao121 t282.length co121 : Value).ownBlock ∧ some k_ ≠ (.slice Ao63 t288.length co63 : Value).ownBlock ∧ some k_ ≠ (.slice Ao73 t298.length co73 : Value).ownBlock ∧ some k_ ≠ (.slice Ao82 t305.length co82 : Value).ownBlock ∧ some k_ ≠ (.slice Ao96 t319.length co96 : Value).ownBlock ∧ some k_ ≠ (.slice Ao106 t327.length co106 : Value).ownBlock ∧ some k_ ≠ (.slice Ao117 t334.length co117 : Value).ownBlock ∧ k_ ≠ gb265 ∧ k_ ≠ gb277 ∧ k_ ≠ gb292 ∧ k_ ≠ gb302 ∧ k_ ≠ gb310 ∧ k_ ≠ gb324 ∧ k_ ≠ gb331 ∧ k_ ≠ gb338) ho0 (fun k_ hk_ => ⟨Or.elim hk_ (fun hs_ => fun e_ => Nat.not_le.2 hs_ (u' HO270.out k_ e_.symm)) (fun hn_ => (bc' (ad' (by (with_reducible repeat (first | apply h' | apply g' | apply j')); exact HO270.out)) k_ hn_)), Or.elim hk_ (fun hs_ => fun e_ => Nat.not_le.2 hs_ (u' HO280.out k_ e_.symm)) (fun hn_ => (bc' (ad' (by (with_reducible repeat (first | apply h' | apply g' | apply j')); exact HO280.out)) k_ hn_)), Or.elim hk_ (fun hs_ => fun e_ => Nat.not_le.2 hs_ (u' HO284.out k_ e_.symm)) (fun hn_ => (bc' (ad' (by (with_reducible repeat (first | apply h' | apply g' | apply j')); exact HO284.out)) k_ hn_)), Or.elim hk_ (fun hs_ => fun e_ => Nat.not_le.2 hs_ (u' HO290.out k_ e_.symm)) (fun hn_ => (bc' (ad' (by (with_reducible repeat (first | apply h' | apply g' | apply j')); exact HO290.out)) k_ hn_)), Or.elim hk_ (fun hs_ => fun e_ => Nat.not_le.2 hs_ (u' HO300.out k_ e_.symm)) (fun hn_ => (bc' (ad' (by (with_reducible repeat (first | apply h' | apply g' | apply j')); exact HO300.out)) k_ hn_)), Or.elim hk_ (fun hs_ => fun e_ => Nat.not_le.2 hs_ (u' HO307.out k_ e_.symm)) (fun hn_ => (bc' (ad' (by (with_reducible repeat (first | apply h' | apply g' | apply j')); exact HO307.out)) k_ hn_)), Or.elim hk_ (fun hs_ => fun e_ => Nat.not_le.2 hs_ (u' HO321.out k_ e_.symm)) (fun hn_ => (bc' (ad' (by (with_reducible repeat (first | apply h' | apply g' | apply j')); exact HO321.out)) k_ hn_)), Or.elim hk_ (fun hs_ => fun e_ => Nat.not_le.2 hs_ (u' HO329.out k_ e_.symm)) (fun hn_ => (bc' (ad' (by (with_reducible repeat (first | apply h' | apply g' | apply j')); exact HO329.out)) k_ hn_)), Or.elim hk_ (fun hs_ => fun e_ => Nat.not_le.2 hs_ (u' HO336.out k_ e_.symm)) (fun hn_ => (bc' (ad' (by (with_reducible repeat (first | apply h' | apply g' | apply j')); exact HO336.out)) k_ hn_)), Or.elim hk_ (fun hs_ => fun e_ => Nat.not_le.2 hs_ (by rw [e_]; exact GW265.out)) (fun hn_ => (bd' (g := gb265) (o := .cells #[.int .i64 a0_0, .int .i64 a0_1, .slice A0_2 l0_2.length c0_2] 24 (0, 0)) (by (with_reducible repeat (first | apply c' | apply f' | apply d')); exact BK265.out) k_ hn_)), Or.elim hk_ (fun hs_ => fun e_ => Nat.not_le.2 hs_ (by rw [e_]; exact GW277.out)) (fun hn_ => (bd' (g := gb277) (o := .cells #[.int .i64 t266, .int .i64 t267, .slice Ao53 t268.length co53] 25 (0, 0)) (by (with_reducible repeat (first | apply c' | apply f' | apply d')); exact BK277.out) k_ hn_)), Or.elim hk_ (fun hs_ => fun e_ => Nat.not_le.2 hs_ (by rw [e_]; exact GW292.out)) (fun hn_ => (bd' (g := gb292) (o := .cells #[.int .i64 t286, .int .i64 t287, .slice Ao63 t288.length co63] 25 (0, 0)) (by (with_reducible repeat (first | apply c' | apply f' | apply d')); exact BK292.out) k_ hn_)), Or.elim hk_ (fun hs_ => fun e_ => Nat.not_le.2 hs_ (by rw [e_]; exact GW302.out)) (fun hn_ => (bd' (g := gb302) (o := .cells #[.int .i64 t296, .int .i64 t297, .slice Ao73 t298.length co73] 24 (0, 0)) (by (with_reducible repeat (first | apply c' | apply f' | apply d')); exact BK302.out) k_ hn_)), Or.elim hk_ (fun hs_ => fun e_ => Nat.not_le.2 hs_ (by rw [e_]; exact GW310.out)) (fun hn_ => (bd' (g := gb310) (o := .cells #[.int .i64 t303, .int .i64 t304, .slice Ao82 t305.length co82] 25 (0, 0)) (by (with_reducible repeat (first | apply c' | apply f' | apply d')); exact BK310.out) k_ hn_)), Or.elim hk_ (fun hs_ => fun e_ => Nat.not_le.2 hs_ (by rw [e_]; exact GW324.out)) (fun hn_ => (bd' (g := gb324) (o := .cells #[.int .i64 t317, .int .i64 t318, .slice Ao96 t319.length co96] 24 (0, 0)) (by (with_reducible repeat (first | apply c' | apply f' | apply d')); exact BK324.out) k_ hn_)), Or.elim hk_ (fun hs_ => fun e_ => Nat.not_le.2 hs_ (by rw [e_]; exact GW331.out)) (fun hn_ => (bd' (g := gb331) (o := .cells #[.int .i64 t325, .int .i64 t326, .slice Ao106 t327.length co106] 25 (0, 0)) (by (with_reducible repeat (first | apply c' | apply f' | apply d')); exact BK331.out) k_ hn_)), Or.elim hk_ (fun hs_ => fun e_ => Nat.not_le.2 hs_ (by rw [e_]; exact GW338.out)) (fun hn_ => (bd' (g := gb338) (o := .cells #[.int .i64 t332, .int .i64 t333, .slice Ao117 t334.length co117] 24 (0, 0)) (by (with_reducible repeat (first | apply c' | apply f' | apply d')); exact BK338.out) k_ hn_))⟩)) (af' (by repeat (first | (with_reducible first | exact HB.out | apply s' | apply p' | apply r' | refine e' ?_ GE265.out | refine e' ?_ GE277.out | refine e' ?_ GE292.out | refine e' ?_ GE302.out | refine e' ?_ GE310.out | refine e' ?_ GE324.out | refine e' ?_ GE331.out | refine e' ?_ GE338.out) | exact HB.out))))
  have n15_ := cg' (m' (g := gb265) (o := .cells #[.int .i64 a0_0, .int .i64 a0_1, .slice A0_2 l0_2.length c0_2] 24 (0, 0)) (by (with_reducible repeat (first | apply c' | apply f' | apply d')); exact BK265.out) hb)
  have n16_ := cg' (m' (g := gb277) (o := .cells #[.int .i64 t266, .int .i64 t267, .slice Ao53 t268.length co53] 25 (0, 0)) (by (with_reducible repeat (first | apply c' | apply f' | apply d')); exact BK277.out) hb)
  have n17_ := cg' (m' (g := gb292) (o := .cells #[.int .i64 t286, .int .i64 t287, .slice Ao63 t288.length co63] 25 (0, 0)) (by (with_reducible repeat (first | apply c' | apply f' | apply d')); exact BK292.out) hb)
  have n18_ := cg' (m' (g := gb302) (o := .cells #[.int .i64 t296, .int .i64 t297, .slice Ao73 t298.length co73] 24 (0, 0)) (by (with_reducible repeat (first | apply c' | apply f' | apply d')); exact BK302.out) hb)
  have n19_ := cg' (m' (g := gb310) (o := .cells #[.int .i64 t303, .int .i64 t304, .slice Ao82 t305.length co82] 25 (0, 0)) (by (with_reducible repeat (first | apply c' | apply f' | apply d')); exact BK310.out) hb)
  have n20_ := cg' (m' (g := gb324) (o := .cells #[.int .i64 t317, .int .i64 t318, .slice Ao96 t319.length co96] 24 (0, 0)) (by (with_reducible repeat (first | apply c' | apply f' | apply d')); exact BK324.out) hb)
  have n21_ := cg' (m' (g := gb331) (o := .cells #[.int .i64 t325, .int .i64 t326, .slice Ao106 t327.length co106] 25 (0, 0)) (by (with_reducible repeat (first | apply c' | apply f' | apply d')); exact BK331.out) hb)
  have n22_ := cg' (m' (g := gb338) (o := .cells #[.int .i64 t332, .int .i64 t333, .slice Ao117 t334.length co117] 24 (0, 0)) (by (with_reducible repeat (first | apply c' | apply f' | apply d')); exact BK338.out) hb)
  have n23_ := cg' (ah' (by repeat (first | (with_reducible first | exact HB.out | apply s' | apply p' | apply r' | refine e' ?_ GE265.out | refine e' ?_ GE277.out | refine e' ?_ GE292.out | refine e' ?_ GE302.out | refine e' ?_ GE310.out | refine e' ?_ GE324.out | refine e' ?_ GE331.out | refine e' ?_ GE338.out) | exact HB.out)) hb)
  clear HO270
  clear HO273
  clear HO276
  clear HO280
  clear HO284
  clear HO290
  clear HO295
  clear HO300
  clear HO307
  clear HO313
  clear HO316
  clear HO321
  clear HO329
  clear HO336
  clear BK265
  clear BK277
  clear BK292
  clear BK302
  clear BK310
  clear BK324
  clear BK331
  clear BK338
  clear HB
  have HO270 := n0_
  have HO273 := n1_
  have HO276 := n2_
  have HO280 := n3_
  have HO284 := n4_
  have HO290 := n5_
  have HO295 := n6_
  have HO300 := n7_
  have HO307 := n8_
  have HO313 := n9_
  have HO316 := n10_
  have HO321 := n11_
  have HO329 := n12_
  have HO336 := n13_
  have HO353 := n14_
  have BK265 := n15_
  have BK277 := n16_
  have BK292 := n17_
  have BK302 := n18_
  have BK310 := n19_
  have BK324 := n20_
  have BK331 := n21_
  have BK338 := n22_
  have HB := n23_
  clear n0_ n1_ n2_ n3_ n4_ n5_ n6_ n7_ n8_ n9_ n10_ n11_ n12_ n13_ n14_ n15_ n16_ n17_ n18_ n19_ n20_ n21_ n22_ n23_
  (try clear hb)
  (try clear hb2)
  (try clear hk)
  (try clear hi)
  (try clear ho0)
  obtain ⟨Ao129, co129, eo129⟩ := Kd.V_slice HO353.out
  (first | subst eo129 | (injection eo129 with f1_ f2_ f3_; have f4_ := f1_.symm; have f5_ := f3_.symm; clear f1_ f2_ f3_; subst f4_; subst f5_))
  refine hK.out _ _ ⟨(b' BK292.out 0).trans rfl, (b' BK292.out 1).trans rfl, (b' BK292.out 2).trans rfl, (b' BK302.out 0).trans rfl, (b' BK302.out 1).trans rfl, (b' BK302.out 2).trans rfl, (b' BK310.out 0).trans rfl, (b' BK310.out 1).trans rfl, (b' BK310.out 2).trans rfl, (b' BK324.out 0).trans rfl, (b' BK324.out 1).trans rfl, (b' BK324.out 2).trans rfl, (b' BK331.out 0).trans rfl, (b' BK331.out 1).trans rfl, (b' BK331.out 2).trans rfl, (b' BK338.out 0).trans rfl, (b' BK338.out 1).trans rfl, (b' BK338.out 2).trans rfl, (b' BK277.out 0).trans rfl, (b' BK277.out 1).trans rfl, (b' BK277.out 2).trans rfl, (b' BK265.out 0).trans rfl, (b' BK265.out 1).trans rfl, (b' BK265.out 2).trans rfl⟩ (fun hHeld => ?_)
  clear hK K
  refine norm_ (a' := ?_) ?_ ?_
  rotate_left
  · show Act.put _ (some 144) _ = _
    simp only [Act.put, bg', bh', ca', i64_w, i32_w]
    rfl
  refine one_ (i := 64) (N := some 145) #[Y,Y,Y,Y,Y,Y,Y,Y,Y,Y,Y,Y,Y,Y,Y,Y,Y,Y,Y,Y,Y,Y,Y,Y,Y,Y,Y,Y,Y,Y,Y,Y,Y,Y,Y,Y,Y,Y,Y,Y,Y,Y,Y,Y,Y,Y,Y,Y,Y,Y,Y,Y,Y,Y,Y,Y,Y,Y,Y,Y,Y,Y,Y,Y,Y,Z,Z,Z,Z,Z] rfl rfl (one_of HT_.out (by kernel_rfl)) (by decide) (fun K hK => ?_)
  refine goes_ Try.func21 (by kernel_rfl) rfl #[.slice Ao57 t271.length co57, .slice Ao129 t351.length co129] (by rfl) rfl rfl (by (try simp only [cb', cc', cd']); first | done | rfl | (simp only [ce', cf']; rfl)) ?_
  with_reducible refine (fanlightplain_SameBytes.calls _ _ t271 _ _ t351 true _ ?side1 ?side2 ?side3 ?side4 A42.out).mono ?_
  (case side1 => repeat (first | exact (Kd.V_reads' HO273.out).2.2 | (with_reducible refine bf' ?_ _) | (with_reducible refine be' ?_ _) | (with_reducible refine Kd.C_drew ?_)))
  (case side2 => exact (Kd.V_reads' HO273.out).2.1)
  (case side3 => repeat (first | exact (Kd.V_reads' HO353.out).2.2 | (with_reducible refine bf' ?_ _) | (with_reducible refine be' ?_ _) | (with_reducible refine Kd.C_drew ?_)))
  (case side4 => exact (Kd.V_reads' HO353.out).2.1)
  rintro e w' ⟨rfl, ⟨nd, rfl⟩⟩
  refine ⟨_, rfl, ?_⟩
  refine hK.out _ _ ⟨(b' BK292.out 0).trans rfl, (b' BK292.out 1).trans rfl, (b' BK292.out 2).trans rfl, (b' BK302.out 0).trans rfl, (b' BK302.out 1).trans rfl, (b' BK302.out 2).trans rfl, (b' BK310.out 0).trans rfl, (b' BK310.out 1).trans rfl, (b' BK310.out 2).trans rfl, (b' BK324.out 0).trans rfl, (b' BK324.out 1).trans rfl, (b' BK324.out 2).trans rfl, (b' BK331.out 0).trans rfl, (b' BK331.out 1).trans rfl, (b' BK331.out 2).trans rfl, (b' BK338.out 0).trans rfl, (b' BK338.out 1).trans rfl, (b' BK338.out 2).trans rfl, (b' BK277.out 0).trans rfl, (b' BK277.out 1).trans rfl, (b' BK277.out 2).trans rfl, (b' BK265.out 0).trans rfl, (b' BK265.out 1).trans rfl, (b' BK265.out 2).trans rfl⟩ (fun hHeld => ?_)
  clear hK K
  refine norm_ (a' := ?_) ?_ ?_
  rotate_left
  · show Act.put _ (some 145) _ = _
    simp only [Act.put, bg', bh', ca', i64_w, i32_w]
    rfl
  refine pure_ (i := 65) (N := some 146) (v := ?_) (a' := ?_) #[Y,Y,Y,Y,Y,Y,Y,Y,Y,Y,Y,Y,Y,Y,Y,Y,Y,Y,Y,Y,Y,Y,Y,Y,Y,Y,Y,Y,Y,Y,Y,Y,Y,Y,Y,Y,Y,Y,Y,Y,Y,Y,Y,Y,Y,Y,Y,Y,Y,Y,Y,Y,Y,Y,Y,Y,Y,Y,Y,Y,Y,Y,Y,Y,Y,Y,Z,Z,Z,Z] rfl rfl (any_of HT_.out (by kernel_rfl)) (fun _ _ _ h => h) (Or.inl ⟨by rfl, ?_⟩) ?_ ?_
  rotate_left
  · intro w'
    go_simp
    with_reducible rfl
  rotate_left
  · simp only [Act.put, bg', bh', ca', i64_w, i32_w]
    rfl
  refine pure_ (i := 66) (N := some 147) (v := ?_) (a' := ?_) #[Y,Y,Y,Y,Y,Y,Y,Y,Y,Y,Y,Y,Y,Y,Y,Y,Y,Y,Y,Y,Y,Y,Y,Y,Y,Y,Y,Y,Y,Y,Y,Y,Y,Y,Y,Y,Y,Y,Y,Y,Y,Y,Y,Y,Y,Y,Y,Y,Y,Y,Y,Y,Y,Y,Y,Y,Y,Y,Y,Y,Y,Y,Y,Y,Y,Y,Y,Z,Z,Z] rfl rfl (any_of HT_.out (by kernel_rfl)) (fun _ _ _ h => h) (Or.inl ⟨by rfl, ?_⟩) ?_ ?_
  rotate_left
  · intro w'
    go_simp
    with_reducible rfl
  rotate_left
  · simp only [Act.put, bg', bh', ca', i64_w, i32_w]
    rfl
  refine one_ (i := 67) (N := some 148) #[Y,Y,Y,Y,Y,Y,Y,Y,Y,Y,Y,Y,Y,Y,Y,Y,Y,Y,Y,Y,Y,Y,Y,Y,Y,Y,Y,Y,Y,Y,Y,Y,Y,Y,Y,Y,Y,Y,Y,Y,Y,Y,Y,Y,Y,Y,Y,Y,Y,Y,Y,Y,Y,Y,Y,Y,Y,Y,Y,Y,Y,Y,Y,Y,Y,Y,Y,Y,Z,Z] rfl rfl (one_of HT_.out (by kernel_rfl)) (by decide) (fun K hK => ?_)
  refine goes_ Try.func26 (by kernel_rfl) rfl #[] (by rfl) rfl rfl (by (try simp only [cb', cc', cd']); first | done | rfl | (simp only [ce', cf']; rfl)) ?_
  with_reducible refine (fanlightlaw07_alive.calls  t355 _ A44.out).mono ?_
  rintro e w130 ⟨rfl, hb⟩
  refine ⟨_, rfl, ?_⟩
  have n0_ := cg' (l' (by (with_reducible repeat (first | apply h' | apply g' | apply j')); exact HO270.out) hb)
  have n1_ := cg' (v' (by (with_reducible repeat (first | apply o' | apply n' | apply q')); exact HO273.out) hb)
  have n2_ := cg' (v' (by (with_reducible repeat (first | apply o' | apply n' | apply q')); exact HO276.out) hb)
  have n3_ := cg' (l' (by (with_reducible repeat (first | apply h' | apply g' | apply j')); exact HO280.out) hb)
  have n4_ := cg' (l' (by (with_reducible repeat (first | apply h' | apply g' | apply j')); exact HO284.out) hb)
  have n5_ := cg' (l' (by (with_reducible repeat (first | apply h' | apply g' | apply j')); exact HO290.out) hb)
  have n6_ := cg' (v' (by (with_reducible repeat (first | apply o' | apply n' | apply q')); exact HO295.out) hb)
  have n7_ := cg' (l' (by (with_reducible repeat (first | apply h' | apply g' | apply j')); exact HO300.out) hb)
  have n8_ := cg' (l' (by (with_reducible repeat (first | apply h' | apply g' | apply j')); exact HO307.out) hb)
  have n9_ := cg' (v' (by (with_reducible repeat (first | apply o' | apply n' | apply q')); exact HO313.out) hb)
  have n10_ := cg' (v' (by (with_reducible repeat (first | apply o' | apply n' | apply q')); exact HO316.out) hb)
  have n11_ := cg' (l' (by (with_reducible repeat (first | apply h' | apply g' | apply j')); exact HO321.out) hb)
  have n12_ := cg' (l' (by (with_reducible repeat (first | apply h' | apply g' | apply j')); exact HO329.out) hb)
  have n13_ := cg' (l' (by (with_reducible repeat (first | apply h' | apply g' | apply j')); exact HO336.out) hb)
  have n14_ := cg' (v' (by (with_reducible repeat (first | apply o' | apply n' | apply q')); exact HO353.out) hb)
  have n15_ := cg' (m' (g := gb265) (o := .cells #[.int .i64 a0_0, .int .i64 a0_1, .slice A0_2 l0_2.length c0_2] 24 (0, 0)) (by (with_reducible repeat (first | apply c' | apply f' | apply d')); exact BK265.out) hb)
  have n16_ := cg' (m' (g := gb277) (o := .cells #[.int .i64 t266, .int .i64 t267, .slice Ao53 t268.length co53] 25 (0, 0)) (by (with_reducible repeat (first | apply c' | apply f' | apply d')); exact BK277.out) hb)
  have n17_ := cg' (m' (g := gb292) (o := .cells #[.int .i64 t286, .int .i64 t287, .slice Ao63 t288.length co63] 25 (0, 0)) (by (with_reducible repeat (first | apply c' | apply f' | apply d')); exact BK292.out) hb)
  have n18_ := cg' (m' (g := gb302) (o := .cells #[.int .i64 t296, .int .i64 t297, .slice Ao73 t298.length co73] 24 (0, 0)) (by (with_reducible repeat (first | apply c' | apply f' | apply d')); exact BK302.out) hb)
  have n19_ := cg' (m' (g := gb310) (o := .cells #[.int .i64 t303, .int .i64 t304, .slice Ao82 t305.length co82] 25 (0, 0)) (by (with_reducible repeat (first | apply c' | apply f' | apply d')); exact BK310.out) hb)
  have n20_ := cg' (m' (g := gb324) (o := .cells #[.int .i64 t317, .int .i64 t318, .slice Ao96 t319.length co96] 24 (0, 0)) (by (with_reducible repeat (first | apply c' | apply f' | apply d')); exact BK324.out) hb)
  have n21_ := cg' (m' (g := gb331) (o := .cells #[.int .i64 t325, .int .i64 t326, .slice Ao106 t327.length co106] 25 (0, 0)) (by (with_reducible repeat (first | apply c' | apply f' | apply d')); exact BK331.out) hb)
  have n22_ := cg' (m' (g := gb338) (o := .cells #[.int .i64 t332, .int .i64 t333, .slice Ao117 t334.length co117] 24 (0, 0)) (by (with_reducible repeat (first | apply c' | apply f' | apply d')); exact BK338.out) hb)
  have n23_ := cg' (ah' (by repeat (first | (with_reducible first | exact HB.out | apply s' | apply p' | apply r' | refine e' ?_ GE265.out | refine e' ?_ GE277.out | refine e' ?_ GE292.out | refine e' ?_ GE302.out | refine e' ?_ GE310.out | refine e' ?_ GE324.out | refine e' ?_ GE331.out | refine e' ?_ GE338.out) | exact HB.out)) hb)
  clear HO270
  clear HO273
  clear HO276
  clear HO280
  clear HO284
  clear HO290
  clear HO295
  clear HO300
  clear HO307
  clear HO313
  clear HO316
  clear HO321
  clear HO329
  clear HO336
  clear HO353
  clear BK265
  clear BK277
  clear BK292
  clear BK302
  clear BK310
  clear BK324
  clear BK331
  clear BK338
  clear HB
  have HO270 := n0_
  have HO273 := n1_
  have HO276 := n2_
  have HO280 := n3_
  have HO284 := n4_
  have HO290 := n5_
  have HO295 := n6_
  have HO300 := n7_
  have HO307 := n8_
  have HO313 := n9_
  have HO316 := n10_
  have HO321 := n11_
  have HO329 := n12_
  have HO336 := n13_
  have HO353 := n14_
  have BK265 := n15_
  have BK277 := n16_
  have BK292 := n17_
  have BK302 := n18_
  have BK310 := n19_
  have BK324 := n20_
  have BK331 := n21_
  have BK338 := n22_
  have HB := n23_
  clear n0_ n1_ n2_ n3_ n4_ n5_ n6_ n7_ n8_ n9_ n10_ n11_ n12_ n13_ n14_ n15_ n16_ n17_ n18_ n19_ n20_ n21_ n22_ n23_
  (try clear hb)
  (try clear hb2)
  (try clear hk)
  (try clear hi)
  refine hK.out _ _ ⟨(b' BK292.out 0).trans rfl, (b' BK292.out 1).trans rfl, (b' BK292.out 2).trans rfl, (b' BK302.out 0).trans rfl, (b' BK302.out 1).trans rfl, (b' BK302.out 2).trans rfl, (b' BK310.out 0).trans rfl, (b' BK310.out 1).trans rfl, (b' BK310.out 2).trans rfl, (b' BK324.out 0).trans rfl, (b' BK324.out 1).trans rfl, (b' BK324.out 2).trans rfl, (b' BK331.out 0).trans rfl, (b' BK331.out 1).trans rfl, (b' BK331.out 2).trans rfl, (b' BK338.out 0).trans rfl, (b' BK338.out 1).trans rfl, (b' BK338.out 2).trans rfl, (b' BK277.out 0).trans rfl, (b' BK277.out 1).trans rfl, (b' BK277.out 2).trans rfl, (b' BK265.out 0).trans rfl, (b' BK265.out 1).trans rfl, (b' BK265.out 2).trans rfl⟩ (fun hHeld => ?_)
  clear hK K
  refine norm_ (a' := ?_) ?_ ?_
  rotate_left
  · show Act.put _ (some 148) _ = _
    simp only [Act.put, bg', bh', ca', i64_w, i32_w]
    rfl
  refine pure_ (i := 68) (N := some 149) (v := ?_) (a' := ?_) #[Y,Y,Y,Y,Y,Y,Y,Y,Y,Y,Y,Y,Y,Y,Y,Y,Y,Y,Y,Y,Y,Y,Y,Y,Y,Y,Y,Y,Y,Y,Y,Y,Y,Y,Y,Y,Y,Y,Y,Y,Y,Y,Y,Y,Y,Y,Y,Y,Y,Y,Y,Y,Y,Y,Y,Y,Y,Y,Y,Y,Y,Y,Y,Y,Y,Y,Y,Y,Y,Z] rfl rfl (any_of HT_.out (by kernel_rfl)) (fun _ _ _ h => h) (Or.inl ⟨by rfl, ?_⟩) ?_ ?_
  rotate_left
  · intro w'
    go_simp
    with_reducible rfl
  rotate_left
  · simp only [Act.put, bg', bh', ca', i64_w, i32_w]
    rfl
  refine pure_ (i := 69) (N := some 6) (v := ?_) (a' := ?_) #[Y,Y,Y,Y,Y,Y,Y,Y,Y,Y,Y,Y,Y,Y,Y,Y,Y,Y,Y,Y,Y,Y,Y,Y,Y,Y,Y,Y,Y,Y,Y,Y,Y,Y,Y,Y,Y,Y,Y,Y,Y,Y,Y,Y,Y,Y,Y,Y,Y,Y,Y,Y,Y,Y,Y,Y,Y,Y,Y,Y,Y,Y,Y,Y,Y,Y,Y,Y,Y,Y] rfl rfl (any_of HT_.out (by kernel_rfl)) (fun _ _ _ h => h) (Or.inl ⟨by rfl, ?_⟩) ?_ ?_
  rotate_left
  · intro w'
    go_simp
    with_reducible rfl
  rotate_left
  · simp only [Act.put, bg', bh', ca', i64_w, i32_w]
    rfl
  refine done_ (done_of HT_.out (by kernel_rfl)) ?_
  try go_wp2
  go_ret
  exact ⟨by first | rfl | (simp [errW_none, errW_some] <;> rfl) | (simp [*, errW_none, errW_some] <;> rfl), by repeat (first | (with_reducible first | exact HB.out | apply s' | apply p' | apply r' | refine e' ?_ GE265.out | refine e' ?_ GE277.out | refine e' ?_ GE292.out | refine e' ?_ GE302.out | refine e' ?_ GE310.out | refine e' ?_ GE324.out | refine e' ?_ GE331.out | refine e' ?_ GE338.out) | exact HB.out)⟩
end Go.Proofs.Ytkdaeleolomdkaa.V
