import Derived.Test.YtgmkgobapeencaaYS0
import Derived.Test.YtgmkgobapeencaaYS1
namespace Go.Proofs.Ytgmkgobapeencaa.S
open Go.RowKit Go.Proofs.YtgmkgobapeencaaW.PrintWords Go.Proofs.YtgmkgobapeencaaW.PrintLast Go.Proofs.YtgmkgobapeencaaW.PrintMore
attribute [local go_sem] max2_int min2_int max_two min_two max_three min_three max_four min_four   -- for this text's walks alone
set_option linter.unusedVariables false
set_option linter.unusedSimpArgs false
def wal_Log_clone.f (l0_0 : List (List Int)) (a0_1 : Int) : Option (List (List Int) × Int) := if l0_0.length ≤ 1000000 ∧ ∀ s ∈ l0_0, s.length < 140737488355328 then some (l0_0, a0_1) else none
theorem cloneRows (A0 : Option Addr) (c0 : Nat) (l0 : List (List Int)) (w : World) (N : Nat) (hN : N ≤ w.heap.size) (hf0 : Kd.F (Kd.slice 5 (Kd.int .u8)) w (fun k => k < N) A0 l0.length l0) (hlen : l0.length ≤ 1000000) :
  Calls Try.prog 40 #[.slice A0 l0.length c0] w fun e w' => ∃ v : Value, e = .returned v ∧ Kd.PartS (Kd.slice 5 (Kd.int .u8)) 25 w' w.heap.size N v l0 0 ∧ Below w.heap.size w w' := by
 have hr0 := Kd.F_now hf0
 cases A0 with
 | none =>
  have e0 : l0 = [] := by
   cases l0 with
   | nil => rfl
   | cons x xs =>
    obtain ⟨ad, c, e, _⟩ := Kd.C_get hr0 ([] : List Int) 0 (by omega) (by simp)
    cases e
  subst e0
  have hq := fun W : World => Lib.run_eql_slice_nil (P := Try.prog) W 22 25 none (List.length ([] : List (List Int))) c0 0 0 Try.underlying22
  simp only [List.length_nil] at hq
  clear hr0 hf0 hN
  go_enter Try.func40, Try.ntmps40
  go_wp2
  go_ret
  exact ⟨_, rfl, Kd.PartS_start (rows := []) (Kd.R_nil _ _ _ _ _) rfl (fun j x c hx => by simp at hx), Below.refl _ _⟩
 | some ad =>
  have hq := fun W : World => Lib.run_eql_slice_nil (P := Try.prog) W 22 25 (some ad) l0.length c0 0 0 Try.underlying22
  have HF0 := Aside0.mk hf0
  have HL0 := Aside0.mk hlen
  have HN0 := Aside0.mk hN
  clear hr0 hlen hf0 hN
  go_enter Try.func40, Try.ntmps40
  go_wp2_with (first | ((with_reducible refine gate_dst (N := 5) rfl ?_); refine Kd.R_lit (Kd.raw 1) (w0 := w) w.heap.size 25 ?hg (N := 5) ?hd (xs := ([] : List (List Value))) (inner := []) (ok := fun _ => True) (okp := fun _ => True) ?hr ?hp (fun _ hk => hk) trivial (Below.refl _ _) (Nat.le_refl _) (by simp) ?_; (case hd => rfl); (case hg => rfl); (case hr => first | (go_simp; done) | (go_simp; rfl)); (case hp => exact Reps.none _ _); intro v102 w2 ho3 hb hg_ hnew_; clear hg_ hnew_; have HO := Aside0.mk ho3; have HB := Aside0.mk hb; clear hb ho3) | ((with_reducible refine gate_builtin (b := .append) (xs := #[.tmp 5, .tmp 6]) rfl ?_); at_builtin; refine Kd.PartS_append_rows (Kd.slice 5 (Kd.int .u8)) (w0 := w) w.heap.size N rfl (.tmp 5) (.tmp 6) 22 25 (.slice none 0 0) 24 rfl Try.underlying22 info25 rfl (by decide) (by omega) v102 l0 _ _ _ rfl rfl ?aO ?aR HN0.out ?aB ?aS ?aL ?_; (case aR => exact (Kd.F_below HF0.out HB.out)); (case aB => exact HB.out); (case aO => exact HO.out); (case aS => exact (below_size HB.out)); (case aL => have := HL0.out; omega); intro v121 w3 ho hb; have HP := Aside0.mk ho; have HB3 := Aside0.mk hb; clear ho hb))
  go_ret
  exact ⟨_, rfl, HP.out, HB3.out⟩
set_option maxRecDepth 100000 in
set_option maxHeartbeats 4000000 in
theorem logclone1 (A0 : Option Addr) (c0 : Nat) (l0 : List (List Int)) (a1 : Int) (w : World) (hr0 : Kd.C (Kd.slice 5 (Kd.int .u8)) w A0 l0.length l0) (hlen : l0.length ≤ 1000000) (hel : ∀ s ∈ l0, s.length < 140737488355328) :
  Calls Try.prog 26 #[.agg #[.slice A0 l0.length c0, .int .i64 a1]] w fun e w' => ∃ v0_ : Value, e = .returned (.agg #[v0_, .int .i64 a1]) ∧ Kd.S (Kd.slice 5 (Kd.int .u8)) 25 w' w.heap.size (fun _ => True) v0_ l0 ∧ Below w.heap.size w w' := by
 have HF := Kd.C_F (Kd.heap_slice 5 (Kd.heap_int .u8)) hr0
 have HCL := Aside0.mk (fun (W : World) (hW : Below w.heap.size w W) => cloneRows A0 c0 l0 W w.heap.size hW.size (Kd.F_below HF hW) hlen)
 have HEL := Aside0.mk hel
 clear hr0 hel HF
 obtain ⟨n, hn⟩ : ∃ n, l0.length = n := ⟨_, rfl⟩
 have HN := Lib.hid hn
 have hnb : n ≤ 1000000 := by rw [← hn]; exact hlen
 rw [hn] at HCL ⊢
 clear hn hlen
 have HB0 := Aside0.mk (below_alloc (below_alloc (Below.refl w.heap.size w) (.cells #[.slice A0 n c0, .int .i64 a1] 27)) (.cells #[.slice none 0 0, .int .i64 0] 27))
 have HXA := Aside0.mk ((Below.heap_alloc (w.alloc (.cells #[.slice A0 n c0, .int .i64 a1] 27)) (.cells #[.slice none 0 0, .int .i64 0] 27) w.heap.size (by simp)).trans (World.alloc_heap_new w (.cells #[.slice A0 n c0, .int .i64 a1] 27)))
 have HXB := Aside0.mk (World.alloc_heap_new (w.alloc (.cells #[.slice A0 n c0, .int .i64 a1] 27)) (.cells #[.slice none 0 0, .int .i64 0] 27))
 simp only [World.size_alloc] at HXB
 go_enter Try.func26, Try.ntmps26
 go_wp2_with fail
 refine (HCL.out _ HB0.out).mono ?_
 rintro e w1 ⟨v1, rfl, hp1, hb1⟩
 obtain ⟨A1, c1, rfl⟩ := Kd.PartS_slice hp1
 rw [HN.out] at hp1 ⊢
 have HB1 := Aside0.mk (HB0.out.trans (hb1.mono HB0.out.size))
 have HXA1 := Aside0.mk ((hb1.block _ (blk_lt HXA.out)).trans HXA.out)
 have HXB1 := Aside0.mk ((hb1.block _ (blk_lt HXB.out)).trans HXB.out)
 obtain ⟨bb, hbb⟩ : ∃ bb, ((w.alloc (.cells #[.slice A0 n c0, .int .i64 a1] 27)).alloc (.cells #[.slice none 0 0, .int .i64 0] 27)).heap.size = bb := ⟨_, rfl⟩
 rw [hbb] at hp1
 have hle : w.heap.size + 2 ≤ bb := by rw [← hbb]; simp
 have HP1 := Aside0.mk (Kd.PartS_set hp1 HXA1.out (by decide) (Nat.le_refl _) 0 (.slice A1 n c1))
 have HXA2 := Aside0.mk (blk_put HXA1.out 0 (.slice A1 n c1) rfl)
 have HXB2 := Aside0.mk (blk_far HXB1.out (p := ⟨w.heap.size, 0, none⟩) (by show w.heap.size + 1 ≠ w.heap.size; omega) (.slice A1 n c1))
 have HB2 := Aside0.mk (HB1.out.setCell (p := ⟨w.heap.size, 0, none⟩) (Nat.le_refl _) (.slice A1 n c1))
 have y0 : w1.cell? ⟨w.heap.size, 0, none⟩ = some (.slice A0 n c0) := blk_cell HXA1.out 0
 have yf : ∀ i, w1.frozen? ⟨w.heap.size, i, none⟩ = false := fun i => by simp [World.frozen?, HXA1.out]
 have z0 : (w1.setCell ⟨w.heap.size, 0, none⟩ (.slice A1 n c1)).cell? ⟨w.heap.size, 0, none⟩ = some (.slice A1 n c1) := blk_cell HXA2.out 0
 clear hp1 hb1 hbb HB0 HXA HXB HCL HXA1 HXB1 HB1
 go_wp2_with fail
 go_loopw [12] (fun i wr => ∃ k : Nat, k ≤ n ∧ i = .int .i64 k ∧ Aside0 (Kd.PartS (Kd.slice 5 (Kd.int .u8)) 25 wr bb w.heap.size (.slice A1 n c1) l0 k) ∧ Aside0 (wr.heap[w.heap.size]? = some (.cells #[.slice A1 n c1, .int .i64 a1] 27 (0, 0))) ∧ Aside0 (wr.heap[w.heap.size + 1]? = some (.cells #[.slice none 0 0, .int .i64 0] 27 (0, 0))) ∧ Aside0 (Below w.heap.size w wr)) (fun i _ => n - (intOf i).toNat)
 case atStart => exact ⟨0, by omega, rfl, HP1, HXA2, HXB2, HB2⟩
 case round =>
  clear HP1 HXA2 HXB2 HB2 y0 yf z0
  obtain ⟨k, hk, rfl, HP, HXA, HXB, HB⟩ := hrel
  by_cases hlt : k < n
  ·
   have hlt' : k < l0.length := by rw [HN.out]; omega
   obtain ⟨g, cap, e, hg1, hg2, _⟩ := Kd.PartS_form HP.out (by omega)
   obtain ⟨rfl, -, rfl⟩ : A1 = some ⟨g, 0, none⟩ ∧ n = l0.length ∧ c1 = cap := by simpa using e
   obtain ⟨c, hcl, hcc, hfr, hfk⟩ := Kd.PartS_cells HP.out k hlt'
   obtain ⟨A2, c2, rfl, hl2, hC2⟩ := Kd.FK_now (hfk (Nat.le_refl _))
   have hrl := HEL.out l0[k] (List.getElem_mem hlt')
   have hi0 : k * (Kd.slice 5 (Kd.int .u8)).sz + 0 = k := by show k * 1 + 0 = k; omega
   have hx := hcc 0 _ rfl
   have hf0 := hfr 0
   rw [hi0] at hx hf0
   have HCC := Aside0.mk hcc
   have HCL := Aside0.mk (fun (W : World) (hW : Below wr.heap.size wr W) => bytes_Clone.calls A2 c2 l0[k] l0[k] W (Kd.C_below hC2 hW) hl2 (by unfold bytes_Clone.f; rw [if_pos hrl]))
   obtain ⟨m, hm⟩ : ∃ m, l0[k].length = m := ⟨_, rfl⟩
   rw [hm] at hx HCL
   have HM := Lib.hid hm
   have HI := Lib.hid hi0
   have x0 : wr.cell? ⟨w.heap.size, 0, none⟩ = some (.slice (some ⟨g, 0, none⟩) n c1) := blk_cell HXA.out 0
   have hne : g ≠ w.heap.size := by omega
   clear hm hi0 hcc hfr hfk hl2 hC2 hrl hcl e
   go_wp2_with fail
   go_region_held3 (fun w' => w'.cell? ⟨w.heap.size, 0, none⟩ = some (.slice (some ⟨g, 0, none⟩) n c1)) (first | exact pw_cell_below HBC.out x0 | exact x0 | go_keep) ((go_at_call 37; refine (HCL.out _ (below_drew1 (Below.refl _ _))).mono ?_; rintro e wC ⟨vC, rfl, hoC, hbC⟩; obtain ⟨AC, cC, rfl⟩ := Kd.R_slice hoC; have HOC := Aside0.mk hoC; have HBC := Aside0.mk ((below_drew1 (Below.refl _ _)).trans (hbC.mono (below_size (below_drew1 (Below.refl _ _))))); have z0 := pw_cell_below HBC.out x0; have zx := pw_cell_below HBC.out hx; have zf : wC.frozen? ⟨g, k, none⟩ = false := (HBC.out.frozen (p := ⟨g, k, none⟩) hg2).trans hf0; clear hoC hbC))
   have hM : (Kd.slice 5 (Kd.int .u8)).M wC bb (fun q => wr.heap.size ≤ q) l0[k] [.slice AC l0[k].length cC] := ⟨_, rfl, Kd.R_lower (Kd.R_mono (Kd.R_bound HOC.out) (fun q hq => hq.2.1)) (show bb ≤ wr.drew.heap.size from by show bb ≤ wr.heap.size; omega)⟩
   have HPN := Aside0.mk (Kd.PartS_store (W1 := wC) (c := [.slice A2 l0[k].length c2]) (seg := [.slice AC l0[k].length cC]) (j := 0) (okp := fun q => wr.heap.size ≤ q) HP.out hlt' (by omega) rfl HCC.out HBC.out (Nat.le_refl 1) hM (fun _ h => h))
   rw [HI.out] at HPN
   go_wp2_with fail
   exact ⟨⟨k + 1, by omega, by go_num, HPN, ⟨blk_far (blk_below HXA.out HBC.out) (p := ⟨g, k, none⟩) (by show w.heap.size ≠ g; omega) _⟩, ⟨blk_far (blk_below HXB.out HBC.out) (p := ⟨g, k, none⟩) (by show w.heap.size + 1 ≠ g; omega) _⟩, ⟨(HB.out.trans (HBC.out.mono HB.out.size)).setCell (p := ⟨g, k, none⟩) (by show w.heap.size ≤ g; omega) _⟩⟩, by simp [intOf]; omega⟩
  ·
   obtain rfl : k = n := by omega
   have x0 : wr.cell? ⟨w.heap.size, 0, none⟩ = some (.slice A1 k c1) := blk_cell HXA.out 0
   have x1 : wr.cell? ⟨w.heap.size, 1, none⟩ = some (.int .i64 a1) := blk_cell HXA.out 1
   have u0 : wr.cell? ⟨w.heap.size + 1, 0, none⟩ = some (.slice none 0 0) := blk_cell HXB.out 0
   have u1 : wr.cell? ⟨w.heap.size + 1, 1, none⟩ = some (.int .i64 0) := blk_cell HXB.out 1
   have uf : ∀ i, wr.frozen? ⟨w.heap.size + 1, i, none⟩ = false := fun i => by simp [World.frozen?, HXB.out]
   have hfin := Kd.PartS_end (d := Kd.slice 5 (Kd.int .u8)) (e := 25) (W := wr) (base := bb) (N := w.heap.size) (v := .slice A1 k c1) (xs := l0) (by rw [HN.out]; exact HP.out)
   have HFIN := Aside0.mk (Kd.S_lower (Kd.S_set (Kd.S_set hfin HXB.out (by decide) 0 (.slice A1 k c1)) (blk_put HXB.out 0 _ rfl) (by decide) 1 (.int .i64 a1)) (show w.heap.size ≤ bb by omega))
   have HBF := Aside0.mk ((HB.out.setCell (p := ⟨w.heap.size + 1, 0, none⟩) (by show w.heap.size ≤ w.heap.size + 1; omega) (.slice A1 k c1)).setCell (p := ⟨w.heap.size + 1, 1, none⟩) (by show w.heap.size ≤ w.heap.size + 1; omega) (.int .i64 a1))
   have HXF := Aside0.mk (blk_put (blk_put HXB.out 0 (.slice A1 k c1) rfl) 1 (.int .i64 a1) rfl)
   clear hfin
   go_wp2_with fail
   exact bodyPost_ret (results_cell_row rfl _ _ (w.heap.size + 1) 27 #[.slice A1 k c1, .int .i64 a1] (0, 0) _ rfl HXF.out Try.underlying27 rfl (by kernel_rfl)) rfl ⟨_, rfl, HFIN.out, HBF.out⟩
theorem wal_Log_clone.calls (A0_0 : Option Addr) (c0_0 : Nat) (l0_0 : List (List Int)) (a0_1 : Int) (r1 : List (List Int)) (r2 : Int) (w : World) (hr0_0 : Kd.C (Kd.slice 5 (Kd.int .u8)) w A0_0 l0_0.length l0_0) (hc0_0 : l0_0.length ≤ c0_0) (h : wal_Log_clone.f l0_0 a0_1 = some (r1, r2)) :
  Calls Try.prog 26 #[.agg #[.slice A0_0 l0_0.length c0_0, .int .i64 a0_1]] w fun e w' => ∃ v0_ : Value, e = .returned (.agg #[v0_, .int .i64 r2]) ∧ Kd.S (Kd.slice 5 (Kd.int .u8)) 25 w' w.heap.size (fun _ => True) v0_ r1 ∧ Below w.heap.size w w' := by
 unfold wal_Log_clone.f at h
 split at h
 ·
  rename_i hl
  injection h with h
  injection h with h1 h2
  subst h1 h2
  exact logclone1 A0_0 c0_0 l0_0 a0_1 w hr0_0 hl.1 hl.2
 ·
  cases h
end Go.Proofs.Ytgmkgobapeencaa.S
