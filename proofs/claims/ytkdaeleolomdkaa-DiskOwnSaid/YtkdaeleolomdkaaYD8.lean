import Derived.Test.YtkdaeleolomdkaaYD0
import Derived.Test.YtkdaeleolomdkaaYD7
namespace Go.Proofs.Ytkdaeleolomdkaa.D
open Go.RowKit Go.Proofs.YtkdaeleolomdkaaW.PrintWords Go.Proofs.YtkdaeleolomdkaaW.PrintLast Go.Proofs.YtkdaeleolomdkaaW.PrintMore
attribute [local go_sem] max2_int min2_int max_two min_two max_three min_three max_four min_four   -- for this text's walks alone
set_option linter.unusedVariables false
set_option linter.unusedSimpArgs false
def landW (secs : List (List Int)) (x : S57) (nk : Int) : List (List Int) := landL secs x.f1.toNat (((List.range (x.f2.length / 48)).take nk.toNat).map (chunkD x.f2))
def settleL (kf : Nat → Int) : Nat → List S57 → List (List Int) → List (List Int)
 | _, [], secs => secs
 | i, x :: xs, secs => settleL kf (i + 1) xs (landW secs x (kf i))
def okW (n : Nat) (x : S57) : Prop := 0 ≤ x.f1 ∧ 0 < x.f2.length ∧ x.f2.length % 48 = 0 ∧ x.f1 + (x.f2.length / 48 : Nat) ≤ n
theorem landW_len (secs : List (List Int)) (x : S57) (nk : Int) : (landW secs x nk).length = secs.length := landL_len _ _ _
theorem landW_48 {secs : List (List Int)} {x : S57} {nk : Int} (h : ∀ s ∈ secs, s.length = 48) (hx : x.f2.length % 48 = 0) : ∀ s ∈ landW secs x nk, s.length = 48 := by
 refine landL_48 _ _ _ h (fun s hs => ?_)
 obtain ⟨q, hq, rfl⟩ := List.mem_map.1 hs
 exact chunkD_len (cnt := x.f2.length / 48) (by omega) (List.mem_range.1 (List.mem_of_mem_take hq))
theorem settleL_len (kf : Nat → Int) : ∀ (l : List S57) (i : Nat) (secs : List (List Int)), (settleL kf i l secs).length = secs.length
 | [], _, _ => rfl
 | x :: xs, i, secs => by rw [settleL, settleL_len kf xs, landW_len]
theorem settleL_48 (kf : Nat → Int) : ∀ (l : List S57) (i : Nat) (secs : List (List Int)), (∀ s ∈ secs, s.length = 48) → (∀ x ∈ l, x.f2.length % 48 = 0) → ∀ s ∈ settleL kf i l secs, s.length = 48
 | [], _, _, h, _ => h
 | x :: xs, i, secs, h, hx => settleL_48 kf xs (i + 1) _ (landW_48 h (hx x (by simp))) (fun y hy => hx y (by simp [hy]))
theorem settleL_snoc (kf : Nat → Int) (y : S57) : ∀ (l : List S57) (i : Nat) (secs : List (List Int)), settleL kf i (l ++ [y]) secs = landW (settleL kf i l secs) y (kf (i + l.length))
 | [], i, secs => by simp [settleL]
 | x :: xs, i, secs => by
  rw [List.cons_append, settleL, settleL_snoc kf y xs, settleL]
  simp only [List.length_cons]
  rw [show i + 1 + xs.length = i + (xs.length + 1) by omega]
structure BB (base g : Nat) (w w' : World) : Prop where
 os : w'.os = w.os
 tape : w'.tape = w.tape
 output : w'.output = w.output
 size : w.heap.size ≤ w'.heap.size
 block : ∀ k, k < base → k ≠ g → w'.heap[k]? = w.heap[k]?
theorem BB.of_below {base g : Nat} {w w' : World} (h : Below base w w') : BB base g w w' := ⟨h.os, h.tape, h.output, h.size, fun k hk _ => h.block k hk⟩
theorem BB.trans {base g : Nat} {a b c : World} (h : BB base g a b) (k : BB base g b c) : BB base g a c := ⟨k.os.trans h.os, k.tape.trans h.tape, k.output.trans h.output, Nat.le_trans h.size k.size, fun i hi hg => (k.block i hi hg).trans (h.block i hi hg)⟩
theorem BB.setCell {base g : Nat} {w w' : World} (h : BB base g w w') (j : Nat) (u : Value) : BB base g w (w'.setCell ⟨g, j, none⟩ u) := ⟨h.os, h.tape, h.output, by simpa using h.size, fun k hk hg => (Below.heap_setCell w' ⟨g, j, none⟩ u k hg).trans (h.block k hk hg)⟩
theorem BB.below {base g b : Nat} {w w' : World} (h : BB base g w w') (hb : b ≤ base) (hg : b ≤ g) : Below b w w' := ⟨h.os, h.tape, h.output, h.size, fun k hk => h.block k (by omega) (by omega)⟩
theorem kept_trans {A B C : World} {S : Nat → Prop} (h : Kept A B S) (k : Kept B C S) : Kept A C S := ⟨Nat.le_trans h.1 k.1, fun i hi hs => (k.2 i (Nat.lt_of_lt_of_le hi h.1) hs).trans (h.2 i hi hs)⟩
theorem kept_below {A B : World} {S : Nat → Prop} (h : Below A.heap.size A B) : Kept A B S := ⟨h.size, fun i hi _ => h.block i hi⟩
set_option maxRecDepth 100000 in
set_option maxHeartbeats 4000000 in
theorem settle_is (g : Nat) (v0 : Value) (secs : List (List Int)) (A1 : Option Addr) (c1 : Nat) (l1 : List S57) (fk : Nat) (caps : Array Value) (kf : Nat → Int) (P : Nat → Prop) (base : Nat) (w : World) (hbase : base ≤ w.heap.size)
  (hg : w.heap[g]? = some (.cells #[v0, .slice A1 l1.length c1] 58 (0, 0))) (hPg : ¬ P g) (hS : Kd.S (Kd.slice 5 (Kd.int .u8)) 22 w base P v0 secs) (hF : Kd.F k57 w (fun k => ¬ P k) A1 l1.length l1)
  (hs0 : 0 < secs.length) (hsl : secs.length ≤ 4096) (hs48 : ∀ s ∈ secs, s.length = 48) (hl1 : l1.length ≤ 4096) (hok : ∀ x ∈ l1, okW secs.length x)
  (eg : ∀ args w, (callFunc fk args).run Try.prog w = .ok (.enter fk args) w)
  (hkf : ∀ i, -9223372036854775808 ≤ kf i ∧ kf i ≤ 9223372036854775807)
  (hk : ∀ (i : Nat) (W : World), i < l1.length → Kept w W P → Calls Try.prog fk (#[.int .i64 (i : Int)] ++ caps) W fun e w' => e = .returned (.int .i64 (kf i)) ∧ w' = W) :
  Calls Try.prog 57 #[.pointer (some ⟨g, 0, none⟩), .func (.func fk) #[] caps] w fun e w' => (∃ v, e = .returned v) ∧ Kd.S (Kd.slice 5 (Kd.int .u8)) 22 w' base P v0 (settleL kf 0 l1 secs) ∧ w'.heap[g]? = some (.cells #[v0, .slice none 0 0] 58 (0, 0)) ∧ Kept w w' (fun k => P k ∨ k = g) ∧ BB base g w w' := by
 obtain ⟨g0, cap0, rfl, hg0b, hg0l, -⟩ := Kd.S_form hS hs0
 have HS := Aside0.mk hS
 have HF := Aside0.mk hF
 have HG := Aside0.mk hg
 have HK := Aside0.mk hk
 have HKF := Aside0.mk hkf
 have H48 := Aside0.mk hs48
 have HOK := Aside0.mk hok
 obtain ⟨n0, hn0⟩ : ∃ n, secs.length = n := ⟨_, rfl⟩
 obtain ⟨n1, hn1⟩ : ∃ n, l1.length = n := ⟨_, rfl⟩
 have HN0 := Lib.hid hn0
 have HN1 := Lib.hid hn1
 rw [hn0] at hs0 hsl HG HS HOK ⊢
 rw [hn1] at hl1 HG HF HK
 have y0 : w.cell? ⟨g, 1, none⟩ = some (.slice A1 n1 c1) := blk_cell HG.out 1
 clear hS hF hg hk hkf hs48 hok hn0 hn1
 go_enter Try.func57, Try.ntmps57
 go_wp2_with fail
 go_loopw [11] (fun i wr => ∃ j : Nat, j ≤ n1 ∧ i = .int .i64 j ∧ Aside0 (Kd.S (Kd.slice 5 (Kd.int .u8)) 22 wr base P (.slice (some ⟨g0, 0, none⟩) n0 cap0) (settleL kf 0 (l1.take j) secs)) ∧ Aside0 (Kept w wr P) ∧ Aside0 (Below base w wr)) (fun i _ => n1 - (intOf i).toNat)
 case atStart => exact ⟨0, by omega, rfl, HS, ⟨Kept.refl _ _⟩, ⟨Below.refl _ _⟩⟩
 case round =>
  clear y0
  obtain ⟨j, hj, rfl, HSj, HKj, HBj⟩ := hrel
  have HGj := Aside0.mk ((HKj.out.2 g (blk_lt HG.out) hPg).trans HG.out)
  by_cases hlt : j < n1
  ·
   have hjl : j < l1.length := by have := HN1.out; omega
   have hFj := Kd.F_kept HF.out HKj.out (fun _ h => h)
   obtain ⟨ad1, q, rfl, hql, hFK, hqc, -⟩ := Kd.F_get hFj l1[j] (j : Int) (by omega) (by omega)
   rw [Int.toNat_natCast, List.getD_eq_getElem?_getD, List.getElem?_eq_getElem hjl, Option.getD_some] at hFK
   simp only [Int.toNat_natCast] at hqc
   obtain ⟨A2, c2, rfl, hl2, hF2⟩ := k57_openF hFK
   have e0 : wr.cell? (ad1.add (j * 3)) = some (.bool l1[j].f0) := hqc 0 _ rfl
   have e1 : wr.cell? ⟨(ad1.add (j * 3)).block, (ad1.add (j * 3)).off + 1, none⟩ = some (.int .i64 l1[j].f1) := by rw [← add_field _ _ 1 (by omega)]; exact hqc 1 _ rfl
   have e2 : wr.cell? ⟨(ad1.add (j * 3)).block, (ad1.add (j * 3)).off + 2, none⟩ = some (.slice A2 l1[j].f2.length c2) := by rw [← add_field _ _ 2 (by omega)]; exact hqc 2 _ rfl
   obtain ⟨ok1, ok2, ok3, ok4⟩ := HOK.out _ (List.getElem_mem hjl)
   obtain ⟨ad2, hA2, _⟩ := (Kd.F_now hF2).2.2 ok2
   subst hA2
   have htk : l1.take (j + 1) = l1.take j ++ [l1[j]] := List.take_succ_eq_append_getElem hjl
   have hset := settleL_snoc kf l1[j] (l1.take j) 0 secs
   rw [← htk, Nat.zero_add, List.length_take, Nat.min_eq_left (by omega)] at hset
   have hT48 := settleL_48 kf (l1.take j) 0 secs H48.out (fun x hx => (HOK.out x (List.mem_of_mem_take hx)).2.2.1)
   have hTl := settleL_len kf (l1.take j) 0 secs
   obtain ⟨X, hX⟩ : ∃ X, l1[j] = X := ⟨_, rfl⟩
   rw [hX] at e0 e1 e2 ok1 ok2 ok3 ok4 hset hF2 hl2
   obtain ⟨T, hT⟩ : ∃ T, settleL kf 0 (l1.take j) secs = T := ⟨_, rfl⟩
   rw [hT] at HSj hset hT48 hTl
   obtain ⟨sec, hsec⟩ := Int.eq_ofNat_of_zero_le ok1
   obtain ⟨z0, hz0⟩ : ∃ z, X.f0 = z := ⟨_, rfl⟩
   rw [hz0] at e0
   rw [hsec] at e1 ok4
   obtain ⟨cnt, hcnt⟩ : ∃ c, X.f2.length / 48 = c := ⟨_, rfl⟩
   have hlc : X.f2.length = 48 * cnt := by omega
   rw [hcnt] at ok4
   have hland := fun (W : World) (hb : Below wr.heap.size wr W) => land_in g0 n0 cap0 (some ad1) n1 c1 T z0 sec ad2 c2 X.f2 cnt (kf j) P base W (by have := hb.size; have := HKj.out.1; omega) (Kd.S_below HSj.out hb) (Kd.F_below hF2 hb) hlc (by omega) (by omega) (by rw [hTl, HN0.out]; omega) (by rw [hTl, HN0.out]; omega) hT48 hl2 (HKF.out j).1 (HKF.out j).2
   have hsT : settleL kf 0 (l1.take (j + 1)) secs = landL T sec (((List.range cnt).take (kf j).toNat).map (chunkD X.f2)) := by
    rw [hset]
    unfold landW
    rw [hsec, hcnt, Int.toNat_natCast]
   rw [← hsT] at hland
   obtain ⟨m, hm⟩ : ∃ m, X.f2.length = m := ⟨_, rfl⟩
   rw [hm] at e2 hland
   obtain ⟨kj, hkj⟩ : ∃ z, kf j = z := ⟨_, rfl⟩
   have hcall := fun (W : World) (hb : Below wr.heap.size wr W) => HK.out j W hlt (kept_trans HKj.out (kept_below hb))
   rw [hkj] at hland hcall
   have HLAND := Aside0.mk hland
   have HCALL := Aside0.mk hcall
   have HAL := Aside0.mk (below_alloc (Below.refl wr.heap.size wr) (.cells #[.bool z0, .int .i64 (sec : Int), .slice (some ad2) m c2] 57))
   have HNEW := Aside0.mk (World.alloc_heap_new wr (.cells #[.bool z0, .int .i64 (sec : Int), .slice (some ad2) m c2] 57))
   have hszg : (wr.alloc (.cells #[.bool z0, .int .i64 (sec : Int), .slice (some ad2) m c2] 57)).heap.size = wr.heap.size + 1 := by simp
   clear hsT hland hcall hm hkj hlc hcnt hz0 hsec hT hX hset hT48 hTl htk ok1 ok2 ok3 ok4 hFK hqc hql hF2 hl2 hFj HK HN0
   go_wp2_with fail
   obtain ⟨W3, hW3⟩ : ∃ W, wr.alloc (.cells #[.bool z0, .int .i64 (sec : Int), .slice (some ad2) m c2] 57) = W := ⟨_, rfl⟩
   rw [hW3] at HAL HNEW hszg ⊢
   obtain ⟨gb, hgb⟩ : ∃ b, wr.heap.size = b := ⟨_, rfl⟩
   have hbd : Below wr.heap.size wr W3.drew := HAL.out.trans ((below_drew (Below.refl W3.heap.size W3)).mono HAL.out.size)
   have q0 : W3.drew.cell? ⟨g, 0, none⟩ = some (.slice (some ⟨g0, 0, none⟩) n0 cap0) := blk_cell (blk_below HGj.out hbd) 0
   have q1 : W3.drew.cell? ⟨g, 1, none⟩ = some (.slice (some ad1) n1 c1) := blk_cell (blk_below HGj.out hbd) 1
   have r0 : W3.drew.cell? ⟨gb, 0, none⟩ = some (.bool z0) := by rw [← hgb]; exact blk_cell HNEW.out 0
   have r1 : W3.drew.cell? ⟨gb, 1, none⟩ = some (.int .i64 (sec : Int)) := by rw [← hgb]; exact blk_cell HNEW.out 1
   have r2 : W3.drew.cell? ⟨gb, 2, none⟩ = some (.slice (some ad2) m c2) := by rw [← hgb]; exact blk_cell HNEW.out 2
   have HBD := Aside0.mk hbd
   have HGB := Aside0.mk hgb
   rw [hgb]
   clear hW3 hgb hbd HNEW HAL e0 e1 e2 hszg
   refine wp_region_still_tail 7 (by kernel_rfl) (by kernel_rfl) ?_
   simp only [List.take_succ_cons, List.take_zero, List.drop_succ_cons, List.drop_zero]
   change wpStill _ _ W3.drew (fun a' => wpList _ _ _ _ a' W3.drew) _ _
   generalize W3.drew = W4 at q0 q1 r0 r1 r2 HBD ⊢
   repeat still_step
   refine wpStill_step (fun K hK => ?_)
   go_simp
   refine ⟨_, HCALL.out W4 HBD.out, hK _ ?_⟩
   clear hK K
   refine wpStill_nil ?_
   go_wp2_with fail
   refine (HLAND.out W4 HBD.out).mono ?_
   rintro e W5 ⟨⟨v, rfl⟩, hS5, hK5, hB5⟩
   have HS5 := Aside0.mk hS5
   have HK5 := Aside0.mk (kept_trans (kept_trans HKj.out (kept_below HBD.out)) hK5)
   have HB5 := Aside0.mk ((HBj.out.trans (HBD.out.mono (Nat.le_trans hbase HBj.out.size))).trans hB5)
   clear hS5 hK5 hB5 q0 q1 r0 r1 r2
   go_wp2_with fail
   exact ⟨⟨j + 1, by omega, by go_num, HS5, HK5, HB5⟩, by simp [intOf]; omega⟩
  ·
   obtain rfl : j = n1 := by omega
   have hSe := HSj.out
   rw [List.take_of_length_le (by rw [HN1.out]; exact Nat.le_refl _)] at hSe
   have q1 : wr.cell? ⟨g, 1, none⟩ = some (.slice A1 j c1) := blk_cell HGj.out 1
   have zf : ∀ i, wr.frozen? ⟨g, i, none⟩ = false := fun i => blk_frozen HGj.out i
   have HE := Aside0.mk (Kd.S_set hSe HGj.out (by decide) 1 (.slice none 0 0))
   have HX := Aside0.mk (blk_put (cs' := #[.slice (some ⟨g0, 0, none⟩) n0 cap0, .slice none 0 0]) HGj.out 1 (.slice none 0 0) rfl)
   have HKE : Aside0 (Kept w (wr.setCell ⟨g, 1, none⟩ (.slice none 0 0)) (fun k => P k ∨ k = g)) := ⟨⟨by have := HKj.out.1; simpa using this, fun i hi hs => (Below.heap_setCell wr ⟨g, 1, none⟩ _ i (fun e => hs (.inr e))).trans (HKj.out.2 i hi (fun h => hs (.inl h)))⟩⟩
   clear hSe HSj
   go_wp2_with fail
   go_end0
   exact ⟨⟨_, rfl⟩, HE.out, HX.out, HKE.out, (BB.of_below HBj.out).setCell 1 _⟩
end Go.Proofs.Ytkdaeleolomdkaa.D
