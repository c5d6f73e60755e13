import Derived.Test.YtkdaeleolomdkaaYD0
import Derived.Test.YtkdaeleolomdkaaYD7
import Derived.Test.YtkdaeleolomdkaaYD8
import Derived.Test.YtkdaeleolomdkaaYD24
namespace Go.Proofs.Ytkdaeleolomdkaa.D
open Go.RowKit Go.Proofs.YtkdaeleolomdkaaW.PrintWords Go.Proofs.YtkdaeleolomdkaaW.PrintLast Go.Proofs.YtkdaeleolomdkaaW.PrintMore
attribute [local go_sem] max2_int min2_int max_two min_two max_three min_three max_four min_four   -- for this text's walks alone
set_option linter.unusedVariables false
set_option linter.unusedSimpArgs false
theorem cut_2 {P : Program} (t e : TypeId) {i : TypeInfo} (ht : P.underlying t = some (.slice e)) (hi : P.info? e = some i) (size : Nat) (hsz : i.size = size) (A : Option Addr) (n c : Nat) (l h : Nat) (h1 : l ≤ h) (h2 : h ≤ c) :
  ∀ W : World, (Instr.slice t (.slice A n c) (some (.int .i64 (l : Int))) (some (.int .i64 (h : Int))) none).run P W = .ok (.slice (if c = l then A else A.map (·.add (l * size))) (h - l) (c - l)) W := by
 intro W
 have hel : P.elem t = e := by simp [Program.elem, ht]
 have hu : P.underlying t = some (.slice (P.elem t)) := by rw [hel]; exact ht
 rw [run_slice_lh W t A n c hu .i64 .i64 (l : Int) (h : Int) (by omega) (by omega) (by omega), hel]
 simp [sizeOf, typeInfo, hi, hsz, sliced, Result.andThen]
theorem kept_trans1 {w0 W W1 : World} {S : Nat → Prop} (h : Kept w0 W S) (hb : Below W.heap.size W W1) : Kept w0 W1 S :=
 ⟨Nat.le_trans h.1 hb.size, fun i hi hs => (hb.block i (Nat.lt_of_lt_of_le hi h.1)).trans (h.2 i hi hs)⟩
set_option maxRecDepth 100000 in
set_option maxHeartbeats 4000000 in
theorem refland_is (g n0 cap0 : Nat) (A1 : Option Addr) (n1 c1 : Nat) (secs : List (List Int)) (fl : Bool) (sec : Nat) (ad : Addr) (cap : Nat) (data : List Int) (cnt : Nat) (nk : Int) (P : Nat → Prop) (base : Nat) (w : World) (hbase : base ≤ w.heap.size)
  (hS : Kd.S (Kd.slice 5 (Kd.int .u8)) 22 w base P (.slice (some ⟨g, 0, none⟩) n0 cap0) secs) (hF : Kd.F (Kd.int .u8) w (fun k => ¬ P k) (some ad) data.length data)
  (hcnt : data.length = 48 * cnt) (hc0 : 0 < cnt) (hcb : cnt ≤ 4096) (hsec : sec + cnt ≤ secs.length) (hsl : secs.length ≤ 4096) (hcap : data.length ≤ cap) (hnk : -9223372036854775808 ≤ nk) (hnk2 : nk ≤ 9223372036854775807) :
  Calls Try.prog 62 #[.agg #[.slice (some ⟨g, 0, none⟩) n0 cap0, .slice A1 n1 c1], .agg #[.bool fl, .int .i64 (sec : Int), .slice (some ad) data.length cap], .int .i64 nk] w fun e w' => (∃ v, e = .returned v) ∧ Kd.S (Kd.slice 5 (Kd.int .u8)) 22 w' base (fun k => P k ∨ w.heap.size ≤ k) (.slice (some ⟨g, 0, none⟩) n0 cap0) (landL secs sec (((List.range cnt).take nk.toNat).map (chunkD data))) ∧ Kept w w' P ∧ Below base w w' := by
 have hgP : P g := (Kd.S_R hS).1 g (by simp [Value.ownBlock])
 have hgl : g < w.heap.size := Kd.S_lt hS g (by simp [Value.ownBlock])
 have hgb : base ≤ g := Kd.S_base hS g (by simp [Value.ownBlock])
 have hn0 : n0 = secs.length := (Kd.S_reads' hS).1
 obtain ⟨W1, hW1⟩ : ∃ W, (w.alloc (.cells #[.slice (some ⟨g, 0, none⟩) n0 cap0, .slice A1 n1 c1] 55)).alloc (.cells #[.bool fl, .int .i64 (sec : Int), .slice (some ad) data.length cap] 57) = W := ⟨_, rfl⟩
 have hb1 : Below w.heap.size w W1 := by rw [← hW1]; exact below_alloc (below_alloc (Below.refl _ _) _) _
 have hsz : W1.heap.size = w.heap.size + 2 := by rw [← hW1]; simp
 have b0 : W1.heap[w.heap.size]? = some (.cells #[.slice (some ⟨g, 0, none⟩) n0 cap0, .slice A1 n1 c1] 55 (0, 0)) := by rw [← hW1]; exact blk_alloc (blk_new rfl) _
 have b1 : W1.heap[w.heap.size + 1]? = some (.cells #[.bool fl, .int .i64 (sec : Int), .slice (some ad) data.length cap] 57 (0, 0)) := by rw [← hW1]; exact blk_new (by simp)
 have HS1 := Aside0.mk (Kd.S_mono (Kd.S_below hS hb1) (ok' := fun k => P k ∨ w.heap.size ≤ k) (fun k hk => .inl hk))
 have HK1 : Aside0 (Kept w W1 P) := ⟨kept_below hb1⟩
 have HB1 := Aside0.mk (hb1.mono hbase)
 have HF := Aside0.mk hF
 have HSZ1 : Aside0 (w.heap.size + 2 ≤ W1.heap.size) := ⟨by omega⟩
 have HX0 := Aside0.mk b0
 have HX1 := Aside0.mk b1
 obtain ⟨dl, hdl⟩ : ∃ dl, data.length = dl := ⟨_, rfl⟩
 have HD := Lib.hid hdl
 rw [hdl] at hcnt hcap HF HX1 hW1 ⊢
 have hdlb : dl ≤ 196608 := by omega
 have HC := Lib.hid hcnt
 obtain ⟨i0, hi0, _, hsz0, _⟩ := info_parts info5
 have HCUT := Aside0.mk (fun (l h : Nat) (h1 : l ≤ h) (h2 : h ≤ cap) => cut_2 (P := Try.prog) 22 5 Try.underlying22 hi0 1 hsz0 (some ad) dl cap l h h1 h2)
 have HN0 := Aside0.mk hn0
 clear hS hb1 hsz b0 b1 hF hdl hi0 hsz0 hn0 hcnt
 go_enter Try.func62, Try.ntmps62
 go_wp2_with fail
 go_loopw [6] (fun i wr => ∃ j : Nat, j ≤ cnt ∧ i = .int .i64 j ∧ Aside0 ((j : Int) ≤ nk ∨ j = 0) ∧ Aside0 (Kd.S (Kd.slice 5 (Kd.int .u8)) 22 wr base (fun k => P k ∨ w.heap.size ≤ k) (.slice (some ⟨g, 0, none⟩) n0 cap0) (landL secs sec ((List.range j).map (chunkD data)))) ∧ Aside0 (Kept w wr P) ∧ Aside0 (Below base w wr) ∧ Aside0 (w.heap.size + 2 ≤ wr.heap.size) ∧ Aside0 (wr.heap[w.heap.size]? = some (.cells #[.slice (some ⟨g, 0, none⟩) n0 cap0, .slice A1 n1 c1] 55 (0, 0))) ∧ Aside0 (wr.heap[w.heap.size + 1]? = some (.cells #[.bool fl, .int .i64 (sec : Int), .slice (some ad) dl cap] 57 (0, 0)))) (fun i _ => cnt - (intOf i).toNat)
 case atStart => exact ⟨0, by omega, rfl, ⟨.inr rfl⟩, HS1, HK1, HB1, HSZ1, HX0, HX1⟩
 case round =>
  clear HS1 HK1 HB1 HSZ1 HX0 HX1
  obtain ⟨j, hj, rfl, HJ, HS, HK, HB, HSZ, HX0, HX1⟩ := hrel
  have s0 : wr.cell? ⟨w.heap.size, 0, none⟩ = some (.slice (some ⟨g, 0, none⟩) n0 cap0) := blk_cell HX0.out 0
  have s1 : wr.cell? ⟨w.heap.size + 1, 1, none⟩ = some (.int .i64 (sec : Int)) := blk_cell HX1.out 1
  have s2 : wr.cell? ⟨w.heap.size + 1, 2, none⟩ = some (.slice (some ad) dl cap) := blk_cell HX1.out 2
  by_cases h1 : (j : Int) < nk
  ·
   by_cases h2 : j < cnt
   ·
    have hd1 : decide ((j : Int) < nk) = true := decide_eq_true h1
    have hd2 : decide (48 * (j : Int) < (dl : Int)) = true := decide_eq_true (by have := HC.out; omega)
    have hTl : (landL secs sec ((List.range j).map (chunkD data))).length = secs.length := landL_len _ _ _
    have hsn := landL_snoc (chunkD data j) ((List.range j).map (chunkD data)) secs sec
    rw [List.length_map, List.length_range] at hsn
    have hrs : (List.range (j + 1)).map (chunkD data) = (List.range j).map (chunkD data) ++ [chunkD data j] := by rw [List.range_succ, List.map_append]; rfl
    rw [← hrs] at hsn
    obtain ⟨T, hT⟩ : ∃ T, landL secs sec ((List.range j).map (chunkD data)) = T := ⟨_, rfl⟩
    rw [hT] at HS hTl hsn
    obtain ⟨p, hp⟩ : ∃ p, sec + j = p := ⟨_, rfl⟩
    rw [hp] at hsn
    have hpl : p < T.length := by omega
    have hpn : p < n0 := by have := HN0.out; omega
    have hcut := HCUT.out (48 * j) (48 * j + 48) (by omega) (by have := HC.out; omega)
    have hFk := Kd.F_now (Kd.F_kept HF.out HK.out (fun _ h => h))
    rw [← HD.out] at hFk
    have hC8 := Kd.C_mid (c := cap) hFk (lo := 48 * j) (hi := 48 * j + 48) (by omega) (by have := HD.out; have := HC.out; omega) (by rw [HD.out]; omega)
    have hck : (data.take (48 * j + 48)).drop (48 * j) = chunkD data j := by unfold chunkD; rw [List.drop_take]; congr 1; omega
    have hckl : (chunkD data j).length = 48 := chunkD_len (HD.out.trans HC.out) h2
    rw [hck] at hC8
    obtain ⟨AX, hAX⟩ : ∃ A : Option Addr, (if cap = 48 * j then some ad else (some ad : Option Addr).map (·.add (48 * j * 1))) = A := ⟨_, rfl⟩
    have hC9 : (Kd.int .u8).C wr AX (chunkD data j).length (chunkD data j) := by rw [← hAX]; exact hC8
    rw [hAX, show 48 * j + 48 - 48 * j = 48 by omega] at hcut
    have hcut2 : ∀ W : World, (Instr.slice 22 (.slice (some ad) dl cap) (some (.int .i64 (48 * (j : Int)))) (some (.int .i64 (48 * (j : Int) + 48))) none).run Try.prog W = .ok (.slice AX 48 (cap - 48 * j)) W := fun W => by
     have h := hcut W
     rw [show ((48 * j : Nat) : Int) = 48 * (j : Int) by omega, show ((48 * j + 48 : Nat) : Int) = 48 * (j : Int) + 48 by omega] at h
     exact h
    have hcopy := fun (W : World) (hW : Below wr.heap.size wr W) => fanlightref04_Copied.calls AX (cap - 48 * j) (chunkD data j) (chunkD data j) W (Kd.C_below hC9 hW) (by rw [hckl]; have := HC.out; omega) (by unfold fanlightref04_Copied.f; rw [if_pos (by simp; omega), List.nil_append])
    obtain ⟨Z, hZ⟩ : ∃ Z, chunkD data j = Z := ⟨_, rfl⟩
    rw [hZ] at hcopy hckl hsn
    rw [hckl] at hcopy
    have HCOPY := Aside0.mk hcopy
    have HZL := Aside0.mk hckl
    have HSN := Aside0.mk hsn
    have hS0 := Kd.S_mono (Kd.S_bound HS.out) (ok' := fun k => (P k ∨ w.heap.size ≤ k) ∧ ¬ wr.heap.size ≤ k) (fun k hk => ⟨hk.1, by have := hk.2.2.1; omega⟩)
    have HS0 := Aside0.mk hS0
    have hw1 : IntKind.i64.wrap ((sec : Int) + (j : Int)) = (p : Int) := by rw [i64_w]; unfold wrap64; omega
    have hp0 : (0 : Int) ≤ (p : Int) := by omega
    have hp1 : (p : Int) < (n0 : Int) := by omega
    have hgr : g < wr.heap.size := by have := HSZ.out; omega
    clear hcut hFk hC8 hC9 hck hckl hAX hT hrs hp hS0 hcopy hsn hZ hTl
    obtain ⟨oki, c, hcl, hM, hcc, hfr, hoki, hH⟩ := Kd.S_elem HS0.out [] (p : Int) hp0 hp1
    obtain ⟨v', rfl, hR⟩ := hM
    simp only [Int.toNat_natCast] at hcc hR hfr
    obtain ⟨A', c', rfl⟩ := Kd.R_slice hR
    obtain ⟨ly, hly⟩ : ∃ n, (T.getD p []).length = n := ⟨_, rfl⟩
    have hx := hcc 0 _ rfl
    have hf0 := hfr 0
    have hpz : p * (Kd.slice 5 (Kd.int .u8)).sz + 0 = p := by show p * 1 + 0 = p; omega
    rw [hpz] at hx hf0
    rw [hly] at hx hH
    have HH := Aside0.mk hH
    have HPZ := Lib.hid hpz
    clear hcc hfr hoki hH hR hcl hly hpz
    have hne : g ≠ w.heap.size := by omega
    have hne2 : g ≠ w.heap.size + 1 := by omega
    have hzl : Z.length = 48 := HZL.out
    have hw2 : IntKind.i64.wrap (48 * (j : Int)) = 48 * (j : Int) := by rw [i64_w]; unfold wrap64; omega
    have hw3 : IntKind.i64.wrap (48 * (j : Int) + 48) = 48 * (j : Int) + 48 := by rw [i64_w]; unfold wrap64; omega
    go_wp2_with fail
    go_region_held3 (fun w' => w'.cell? ⟨w.heap.size, 0, none⟩ = some (.slice (some ⟨g, 0, none⟩) n0 cap0) ∧ w'.cell? ⟨w.heap.size + 1, 1, none⟩ = some (.int .i64 (sec : Int)) ∧ w'.cell? ⟨w.heap.size + 1, 2, none⟩ = some (.slice (some ad) dl cap)) (first | exact ⟨pw_cell_below HBC.out s0, pw_cell_below HBC.out s1, pw_cell_below HBC.out s2⟩ | exact ⟨s0, s1, s2⟩ | go_keep) ((go_at_call 50; refine (HCOPY.out _ (below_drew1 (Below.refl _ _))).mono ?_; rintro e wC ⟨vC, rfl, hoC, hbC⟩; obtain ⟨AC, cC, rfl⟩ := Kd.R_slice hoC; have HOC := Aside0.mk hoC; have HBC := Aside0.mk ((below_drew1 (Below.refl _ _)).trans (hbC.mono (below_size (below_drew1 (Below.refl _ _))))); have zx := pw_cell_below HBC.out hx; have zf : wC.frozen? ⟨g, p, none⟩ = false := (HBC.out.frozen (p := ⟨g, p, none⟩) hgr).trans hf0; clear hoC hbC))
    have hdz : wr.heap.size ≤ wr.drew.heap.size := (below_drew1 (Below.refl 0 wr)).size
    have hbr : base ≤ wr.heap.size := by have := HSZ.out; omega
    have hHC := Kd.H_below HH.out HBC.out
    have hRC := Kd.R_lower (base' := base) (Kd.R_mono (Kd.R_bound HOC.out) (ok' := fun k => wr.heap.size ≤ k) (fun k hk => by have := hk.2.1; omega)) (by omega)
    have h6 := Kd.S_seg hHC hp0 hp1 (seg := [.slice AC Z.length cC]) (j := 0) (by show 0 + 1 ≤ 1; omega) (x' := Z) ⟨_, rfl, hRC⟩ (fun k hk => .inr hk) (fun k hk => ⟨.inr (by have := HSZ.out; omega), by omega⟩)
    rw [Int.toNat_natCast, hzl, HPZ.out, ← HSN.out] at h6
    obtain ⟨h7, h8⟩ := h6
    have h7 : Kd.S (Kd.slice 5 (Kd.int .u8)) 22 (wC.setCell ⟨g, p, none⟩ (.slice AC 48 cC)) base (fun k => P k ∨ w.heap.size ≤ k) (.slice (some ⟨g, 0, none⟩) n0 cap0) (landL secs sec ((List.range (j + 1)).map (chunkD data))) := h7
    have h8 : wC.grownBy (wC.setCell ⟨g, p, none⟩ (.slice AC 48 cC)) (some g) := h8
    have H7 := Aside0.mk h7
    have K7 := Aside0.mk (kept_grow (kept_trans1 HK.out HBC.out) h8 (fun r e => by cases e; exact .inl hgP))
    have B7 := Aside0.mk ((HB.out.trans (HBC.out.mono hbr)).grown h8 (by have := HBC.out.size; omega) (fun k e => by cases e; exact hgb))
    have X0 : Aside0 ((wC.setCell ⟨g, p, none⟩ (.slice AC 48 cC)).heap[w.heap.size]? = some (.cells #[.slice (some ⟨g, 0, none⟩) n0 cap0, .slice A1 n1 c1] 55 (0, 0))) := ⟨(h8.block _ (by have := HSZ.out; have := HBC.out.size; omega) (fun e => hne (Option.some.inj e).symm)).trans ((HBC.out.block _ (by have := HSZ.out; omega)).trans HX0.out)⟩
    have X1 : Aside0 ((wC.setCell ⟨g, p, none⟩ (.slice AC 48 cC)).heap[w.heap.size + 1]? = some (.cells #[.bool fl, .int .i64 (sec : Int), .slice (some ad) dl cap] 57 (0, 0))) := ⟨(h8.block _ (by have := HSZ.out; have := HBC.out.size; omega) (fun e => hne2 (Option.some.inj e).symm)).trans ((HBC.out.block _ (by have := HSZ.out; omega)).trans HX1.out)⟩
    have Z7 : Aside0 (w.heap.size + 2 ≤ (wC.setCell ⟨g, p, none⟩ (.slice AC 48 cC)).heap.size) := ⟨by have := HSZ.out; have := HBC.out.size; have := h8.size; omega⟩
    clear h7 h8 hHC hRC hx hf0 zx zf hcut2 s0 s1 s2 HCOPY HOC HH HS0 HX0 HX1 HSZ HB HK HBC HSN HPZ
    go_wp2_with fail
    exact ⟨⟨j + 1, by omega, by simp, ⟨.inl (by omega)⟩, H7, K7, B7, Z7, X0, X1⟩, by simp [intOf]; omega⟩
   ·
    have hjc : j = cnt := by omega
    subst hjc
    have hd1 : decide ((j : Int) < nk) = true := decide_eq_true h1
    have hd2 : decide (48 * (j : Int) < (dl : Int)) = false := decide_eq_false (by have := HC.out; omega)
    have hw2 : IntKind.i64.wrap (48 * (j : Int)) = 48 * (j : Int) := by rw [i64_w]; unfold wrap64; omega
    go_wp2_with fail
    go_end0
    refine ⟨⟨_, rfl⟩, ?_, HK.out, HB.out⟩
    have hr : (List.range j).take nk.toNat = List.range j := List.take_of_length_le (by rw [List.length_range]; omega)
    rw [hr]
    exact HS.out
  ·
   have hd1 : decide ((j : Int) < nk) = false := decide_eq_false h1
   go_wp2_with fail
   go_end0
   refine ⟨⟨_, rfl⟩, ?_, HK.out, HB.out⟩
   rw [show min nk.toNat cnt = j by have := HJ.out; omega]
   exact HS.out
end Go.Proofs.Ytkdaeleolomdkaa.D
