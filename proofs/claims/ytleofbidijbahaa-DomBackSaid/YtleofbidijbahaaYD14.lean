import Derived.Test.YtleofbidijbahaaYD0
namespace Go.Proofs.Ytleofbidijbahaa.D
open Go.RowKit Go.Proofs.YtleofbidijbahaaW.PrintWords Go.Proofs.YtleofbidijbahaaW.PrintLast Go.Proofs.YtleofbidijbahaaW.PrintMore
attribute [local go_sem] max2_int min2_int max_two min_two max_three min_three max_four min_four   -- for this text's walks alone
set_option linter.unusedVariables false
set_option linter.unusedSimpArgs false
set_option maxRecDepth 100000 in
set_option maxHeartbeats 2000000 in
theorem cloneI (A0 : Option Addr) (c0 : Nat) (l0 : List Int) (w : World) (hr0 : Kd.C (Kd.int .i64) w A0 l0.length l0) (hc0 : l0.length ≤ c0) (hl : l0.length < 1000000000) :
  Calls Try.prog 63 #[.slice A0 l0.length c0] w fun e w' => ∃ v0_ : Value, e = .returned v0_ ∧ Kd.R (Kd.int .i64) 3 w' w.heap.size (fun _ => True) v0_ l0 ∧ Below w.heap.size w w' := by
 cases A0 with
 | none =>
  have e0 : l0 = [] := by
   cases l0 with
   | nil => rfl
   | cons x xs =>
    obtain ⟨ad, e, _⟩ := Kd.at_int hr0 0 (by omega) (by simp)
    cases e
  subst e0
  have hq := fun W : World => Lib.run_eql_slice_nil (P := Try.prog) W 61 3 none (List.length ([] : List Int)) c0 0 0 Try.underlying61
  simp only [List.length_nil] at hq
  clear hr0
  go_enter Try.func63, Try.ntmps63
  go_wp2
  go_ret
  exact ⟨_, rfl, Kd.R_nil _ _ _ _ _, Below.refl _ _⟩
 | some ad =>
  have hq := fun W : World => Lib.run_eql_slice_nil (P := Try.prog) W 61 3 (some ad) l0.length c0 0 0 Try.underlying61
  have HR0 := Aside0.mk hr0
  have HC0 := Aside0.mk hc0
  clear hr0 hc0
  have HB := Aside0.mk (Below.refl w.heap.size w)
  go_enter Try.func63, Try.ntmps63
  go_wp2_with (first | ((with_reducible refine gate_dst (N := 5) rfl ?_); refine Kd.R_lit (Kd.int .i64) _ 3 ?hg (N := 5) ?hd (xs := ([] : List Int)) (inner := []) (ok := fun _ => True) (okp := fun _ => True) ?hr ?hp (fun _ hk => hk) trivial (Below.refl _ _) (Nat.le_refl _) (by simp) ?_; (case hd => rfl); (case hg => rfl); (case hr => first | (go_simp; done) | (go_simp; rfl)); (case hp => exact Reps.none _ _); intro v102 w2 ho3 hb hg_ hnew_; clear hg_ hnew_; have n0_ := Aside0.mk ho3; have n1_ := Aside0.mk hb; clear HB; have HO := n0_; have HB := n1_; clear n0_ n1_ hb ho3) | ((with_reducible refine gate_builtin (b := .append) (xs := #[.tmp 5, .tmp 6]) rfl ?_); at_builtin; refine Kd.R_append_rows (Kd.int .i64) (w0 := w) w.heap.size rfl (.tmp 5) (.tmp 6) 61 3 (.int .i64 0) 8 rfl Try.underlying61 info3 rfl (by decide) (by omega) v102 ([] : List Int) l0 _ _ _ (fun _ => True) (fun _ => False) rfl rfl ?aO ?aR (fun _ _ h => h) (fun _ h => h.elim) ?aF ?aB ?aS ?aL ?_; (case aR => exact (Kd.C_below HR0.out HB.out)); (case aB => exact HB.out); (case aF => exact (fun _ _ => trivial)); (case aO => exact HO.out); (case aS => exact (below_size HB.out)); (case aL => simp; omega); intro v121 w3 ho hb hg hat; have n0_ := Aside0.mk hb; have n1_ := Aside0.mk ho; clear HB; have HB := n0_; have HO2 := n1_; clear n0_ n1_; clear ho hb hg hat))
  go_ret
  exact ⟨_, rfl, by simpa using HO2.out, HB.out⟩
set_option maxRecDepth 100000 in
set_option maxHeartbeats 2000000 in
theorem cloneA (A0 : Option Addr) (c0 : Nat) (l0 : List S68) (w : World) (hr0 : Kd.C k68 w A0 l0.length l0) (hc0 : l0.length ≤ c0) (hl : l0.length < 1000000000) :
  Calls Try.prog 56 #[.slice A0 l0.length c0] w fun e w' => ∃ v0_ : Value, e = .returned v0_ ∧ Kd.R k68 68 w' w.heap.size (fun _ => True) v0_ l0 ∧ Below w.heap.size w w' := by
 cases A0 with
 | none =>
  have e0 : l0 = [] := by
   cases l0 with
   | nil => rfl
   | cons x xs =>
    obtain ⟨ad, c, e, _⟩ := Kd.C_get hr0 z68 0 (by omega) (by simp)
    cases e
  subst e0
  have hq := fun W : World => Lib.run_eql_slice_nil (P := Try.prog) W 48 68 none (List.length ([] : List S68)) c0 0 0 Try.underlying48
  simp only [List.length_nil] at hq
  clear hr0
  go_enter Try.func56, Try.ntmps56
  go_wp2
  go_ret
  exact ⟨_, rfl, Kd.R_nil _ _ _ _ _, Below.refl _ _⟩
 | some ad =>
  have hq := fun W : World => Lib.run_eql_slice_nil (P := Try.prog) W 48 68 (some ad) l0.length c0 0 0 Try.underlying48
  have HR0 := Aside0.mk hr0
  have HC0 := Aside0.mk hc0
  clear hr0 hc0
  have HB := Aside0.mk (Below.refl w.heap.size w)
  go_enter Try.func56, Try.ntmps56
  go_wp2_with (first | ((with_reducible refine gate_dst (N := 5) rfl ?_); refine Kd.R_lit k68 _ 68 ?hg (N := 5) ?hd (xs := ([] : List S68)) (inner := []) (ok := fun _ => True) (okp := fun _ => True) ?hr ?hp (fun _ hk => hk) trivial (Below.refl _ _) (Nat.le_refl _) (by simp) ?_; (case hd => rfl); (case hg => rfl); (case hr => first | (go_simp; done) | (go_simp; rfl)); (case hp => exact Reps.none _ _); intro v102 w2 ho3 hb hg_ hnew_; clear hg_ hnew_; have n0_ := Aside0.mk ho3; have n1_ := Aside0.mk hb; clear HB; have HO := n0_; have HB := n1_; clear n0_ n1_ hb ho3) | ((with_reducible refine gate_builtin (b := .append) (xs := #[.tmp 5, .tmp 6]) rfl ?_); at_builtin; refine Kd.R_append_rows k68 (w0 := w) w.heap.size rfl (.tmp 5) (.tmp 6) 48 68 (.agg #[.string ByteArray.empty, .string ByteArray.empty]) 32 rfl Try.underlying48 info68 rfl (by decide) (by omega) v102 ([] : List S68) l0 _ _ _ (fun _ => True) (fun _ => False) rfl rfl ?aO ?aR (fun _ _ h => h) (fun _ h => h.elim) ?aF ?aB ?aS ?aL ?_; (case aR => exact (Kd.C_below HR0.out HB.out)); (case aB => exact HB.out); (case aF => exact (fun _ _ => trivial)); (case aO => exact HO.out); (case aS => exact (below_size HB.out)); (case aL => simp; omega); intro v121 w3 ho hb hg hat; have n0_ := Aside0.mk hb; have n1_ := Aside0.mk ho; clear HB; have HB := n0_; have HO2 := n1_; clear n0_ n1_; clear ho hb hg hat))
  go_ret
  exact ⟨_, rfl, by simpa using HO2.out, HB.out⟩
set_option maxRecDepth 100000 in
set_option maxHeartbeats 2000000 in
theorem cloneN (A0 : Option Addr) (c0 : Nat) (l0 : List S63) (w : World) (N : Nat) (hN : N ≤ w.heap.size) (hf0 : Kd.F k63 w (fun k => k < N) A0 l0.length l0) (hlen : l0.length ≤ 1000000) :
  Calls Try.prog 62 #[.slice A0 l0.length c0] w fun e w' => ∃ v : Value, e = .returned v ∧ Kd.PartS k63 63 w' w.heap.size N v l0 0 ∧ Below w.heap.size w w' := by
 have hr0 := Kd.F_now hf0
 cases A0 with
 | none =>
  have e0 : l0 = [] := by
   cases l0 with
   | nil => rfl
   | cons x xs =>
    obtain ⟨ad, c, e, _⟩ := Kd.C_get hr0 z63 0 (by omega) (by simp)
    cases e
  subst e0
  have hq := fun W : World => Lib.run_eql_slice_nil (P := Try.prog) W 26 63 none (List.length ([] : List S63)) c0 0 0 Try.underlying26
  simp only [List.length_nil] at hq
  clear hr0 hf0 hN
  go_enter Try.func62, Try.ntmps62
  go_wp2
  go_ret
  exact ⟨_, rfl, Kd.PartS_start (rows := []) (Kd.R_nil _ _ _ _ _) rfl (fun j x c hx => by simp at hx), Below.refl _ _⟩
 | some ad =>
  have hq := fun W : World => Lib.run_eql_slice_nil (P := Try.prog) W 26 63 (some ad) l0.length c0 0 0 Try.underlying26
  have HF0 := Aside0.mk hf0
  have HL0 := Aside0.mk hlen
  have HN0 := Aside0.mk hN
  clear hr0 hlen hf0 hN
  go_enter Try.func62, Try.ntmps62
  go_wp2_with (first | ((with_reducible refine gate_dst (N := 5) rfl ?_); refine Kd.R_lit (Kd.raw 7) (w0 := w) w.heap.size 63 ?hg (N := 5) ?hd (xs := ([] : List (List Value))) (inner := []) (ok := fun _ => True) (okp := fun _ => True) ?hr ?hp (fun _ hk => hk) trivial (Below.refl _ _) (Nat.le_refl _) (by simp) ?_; (case hd => rfl); (case hg => rfl); (case hr => first | (go_simp; done) | (go_simp; rfl)); (case hp => exact Reps.none _ _); intro v102 w2 ho3 hb hg_ hnew_; clear hg_ hnew_; have HO := Aside0.mk ho3; have HB := Aside0.mk hb; clear hb ho3) | ((with_reducible refine gate_builtin (b := .append) (xs := #[.tmp 5, .tmp 6]) rfl ?_); at_builtin; refine Kd.PartS_append_rows k63 (w0 := w) w.heap.size N rfl (.tmp 5) (.tmp 6) 26 63 (.agg #[(.int .i64 0), (.int .i64 0), (.string ⟨#[]⟩), (.string ⟨#[]⟩), (.string ⟨#[]⟩), (.slice none 0 0), (.slice none 0 0)]) 112 rfl Try.underlying26 info63 rfl (by decide) (by omega) v102 l0 _ _ _ rfl rfl ?aO ?aR HN0.out ?aB ?aS ?aL ?_; (case aR => exact (Kd.F_below HF0.out HB.out)); (case aB => exact HB.out); (case aO => exact HO.out); (case aS => exact (below_size HB.out)); (case aL => have := HL0.out; omega); intro v121 w3 ho hb; have HP := Aside0.mk ho; have HB3 := Aside0.mk hb; clear ho hb))
  go_ret
  exact ⟨_, rfl, HP.out, HB3.out⟩
def dom_Clone.f (l0_0 : List S63) (a0_1 a0_2 : Int) : Option (List S63 × Int × Int) := if l0_0.length ≤ 1000000 ∧ (∀ x ∈ l0_0, x.f5.length < 1000000000 ∧ x.f6.length < 1000000000) then some (l0_0, a0_1, a0_2) else none
set_option maxRecDepth 100000 in
set_option maxHeartbeats 4000000 in
theorem domclone_is (A0 : Option Addr) (c0 n : Nat) (ns : List S63) (r nx : Int) (w : World) (hr0 : Kd.C k63 w A0 n ns) (hn : ns.length = n) (hlen : n ≤ 1000000) (hel : ∀ x ∈ ns, x.f5.length < 1000000000 ∧ x.f6.length < 1000000000) :
  Calls Try.prog 33 #[.agg #[.slice A0 n c0, .int .i64 r, .int .i64 nx]] w fun e w' => ∃ v : Value, e = .returned (.agg #[v, .int .i64 r, .int .i64 nx]) ∧ Kd.S k63 63 w' w.heap.size (fun _ => True) v ns ∧ Below w.heap.size w w' := by
 have hdh : Kd.Heap k63 := Kd.heap_iso _ (Kd.heap_pair (Kd.heap_int .i64) (Kd.heap_pair (Kd.heap_int .i64) (Kd.heap_pair Kd.heap_string (Kd.heap_pair Kd.heap_string (Kd.heap_pair Kd.heap_string (Kd.heap_pair (Kd.heap_slice _ (Kd.heap_iso _ (Kd.heap_pair Kd.heap_string Kd.heap_string))) (Kd.heap_slice _ (Kd.heap_int .i64))))))))
 have HC0 := Aside0.mk (fun (W : World) (hW : Below w.heap.size w W) => cloneN A0 c0 ns W w.heap.size hW.size (Kd.F_below (Kd.C_F hdh (by rw [hn]; exact hr0)) hW) (by omega))
 rw [hn] at HC0
 have HE := Aside0.mk hel
 have HN := Lib.hid hn
 clear hr0 hel hn hdh
 have HB0 := Aside0.mk (below_alloc (below_alloc (Below.refl w.heap.size w) (.cells #[.slice A0 n c0, .int .i64 r, .int .i64 nx] 28)) (.cells #[.slice none 0 0, .int .i64 0, .int .i64 0] 28))
 have HXA := Aside0.mk ((Below.heap_alloc (w.alloc (.cells #[.slice A0 n c0, .int .i64 r, .int .i64 nx] 28)) (.cells #[.slice none 0 0, .int .i64 0, .int .i64 0] 28) w.heap.size (by simp)).trans (World.alloc_heap_new w (.cells #[.slice A0 n c0, .int .i64 r, .int .i64 nx] 28)))
 have HXB := Aside0.mk (World.alloc_heap_new (w.alloc (.cells #[.slice A0 n c0, .int .i64 r, .int .i64 nx] 28)) (.cells #[.slice none 0 0, .int .i64 0, .int .i64 0] 28))
 simp only [World.size_alloc] at HXB
 obtain ⟨w1, hw1⟩ : ∃ W, (w.alloc (.cells #[.slice A0 n c0, .int .i64 r, .int .i64 nx] 28)).alloc (.cells #[.slice none 0 0, .int .i64 0, .int .i64 0] 28) = W := ⟨_, rfl⟩
 go_enter Try.func33, Try.ntmps33
 go_upto_region 1 with (fail)
 rw [hw1] at HB0 HXA HXB
 have x0 : w1.cell? ⟨w.heap.size, 0, none⟩ = some (.slice A0 n c0) := blk_cell HXA.out 0
 go_wp2_with fail
 refine (HC0.out _ HB0.out).mono ?_
 rintro e w2 ⟨v, rfl, hP, hb2⟩
 obtain ⟨AC, cC, rfl⟩ := Kd.PartS_slice hP
 rw [HN.out] at hP ⊢
 have hXA2 := (hb2.block _ (blk_lt HXA.out)).trans HXA.out
 have hXB2 := (hb2.block _ (blk_lt HXB.out)).trans HXB.out
 have x0 : w2.cell? ⟨w.heap.size, 0, none⟩ = some (.slice A0 n c0) := blk_cell hXA2 0
 have xf : ∀ i, w2.frozen? ⟨w.heap.size, i, none⟩ = false := fun i => by simp [World.frozen?, hXA2]
 have HP2 := Aside0.mk (Kd.PartS_set hP hXA2 (by decide) (Nat.le_refl _) 0 (.slice AC n cC))
 have HXA2 := Aside0.mk (blk_put hXA2 0 (.slice AC n cC) rfl)
 have HXB2 := Aside0.mk (blk_far hXB2 (p := ⟨w.heap.size, 0, none⟩) (by show w.heap.size + 1 ≠ w.heap.size; omega) (.slice AC n cC))
 have HB2 := Aside0.mk ((HB0.out.trans (hb2.mono HB0.out.size)).setCell (p := ⟨w.heap.size, 0, none⟩) (Nat.le_refl _) (.slice AC n cC))
 have hbb : w.heap.size + 1 < w1.heap.size := blk_lt HXB.out
 obtain ⟨bb, hbbe⟩ : ∃ b, w1.heap.size = b := ⟨_, rfl⟩
 rw [hbbe] at HP2 hbb
 clear hP hb2 hXA2 hXB2 HXA HXB HB0 HC0 hbbe hw1
 go_wp2_with fail
 clear x0 xf
 go_loopw [12] (fun i wr => ∃ j : Nat, j ≤ n ∧ i = .int .i64 j ∧ Aside0 (Kd.PartS k63 63 wr bb w.heap.size (.slice AC n cC) ns j) ∧ Aside0 (wr.heap[w.heap.size]? = some (.cells #[.slice AC n cC, .int .i64 r, .int .i64 nx] 28 (0, 0))) ∧ Aside0 (wr.heap[w.heap.size + 1]? = some (.cells #[.slice none 0 0, .int .i64 0, .int .i64 0] 28 (0, 0))) ∧ Aside0 (Below w.heap.size w wr)) (fun i _ => n - (intOf i).toNat)
 case atStart => exact ⟨0, by omega, rfl, HP2, HXA2, HXB2, HB2⟩
 case round =>
  clear HP2 HXA2 HXB2 HB2
  obtain ⟨j, hj, rfl, HP, HXA, HXB, HB⟩ := hrel
  by_cases hlt : j < n
  ·
   have hlt' : j < ns.length := by rw [HN.out]; omega
   obtain ⟨g, cap, e, hg1, hg2, cgs, hgc⟩ := Kd.PartS_form HP.out (by omega)
   obtain ⟨rfl, -, rfl⟩ : AC = some ⟨g, 0, none⟩ ∧ n = ns.length ∧ cC = cap := by simpa using e
   obtain ⟨c, hcl, hcc, hfr, hfk⟩ := Kd.PartS_cells HP.out j hlt'
   obtain ⟨A5, c5, A6, c6, rfl, hl5, hC5, hl6, hC6⟩ := k63_openF (hfk (Nat.le_refl _))
   have hC5 := Kd.F_now hC5
   have hC6 := Kd.F_now hC6
   obtain ⟨X, hX⟩ : ∃ X, ns[j] = X := ⟨_, rfl⟩
   have hrl := HE.out ns[j] (List.getElem_mem hlt')
   rw [hX] at hcc hl5 hC5 hl6 hC6 hrl
   have hx0 := hcc 0 _ rfl
   have hx1 := hcc 1 _ rfl
   have hx2 := hcc 2 _ rfl
   have hx3 := hcc 3 _ rfl
   have hx4 := hcc 4 _ rfl
   have hx5 := hcc 5 _ rfl
   have hx6 := hcc 6 _ rfl
   have hf5 := hfr 5
   have hf6 := hfr 6
   have hs7 : k63.sz = 7 := rfl
   rw [hs7] at hx0 hx1 hx2 hx3 hx4 hx5 hx6 hf5 hf6
   rw [Nat.add_zero] at hx0
   have HCC := Aside0.mk hcc
   have HGC := Aside0.mk hgc
   have HX := Lib.hid hX
   have HCL5 := Aside0.mk (fun (W : World) (hW : Below wr.heap.size wr W) => cloneA A5 c5 X.f5 W (Kd.C_below hC5 hW) hl5 hrl.1)
   have HCL6 := Aside0.mk (fun (W : World) (hW : Below wr.heap.size wr W) => cloneI A6 c6 X.f6 W (Kd.C_below hC6 hW) hl6 hrl.2)
   obtain ⟨m5, hm5⟩ : ∃ m, X.f5.length = m := ⟨_, rfl⟩
   obtain ⟨m6, hm6⟩ : ∃ m, X.f6.length = m := ⟨_, rfl⟩
   rw [hm5] at hx5 HCL5
   rw [hm6] at hx6 HCL6
   have HM5 := Lib.hid hm5
   have HM6 := Lib.hid hm6
   have x0 : wr.cell? ⟨w.heap.size, 0, none⟩ = some (.slice (some ⟨g, 0, none⟩) n cC) := blk_cell HXA.out 0
   have hne : g ≠ w.heap.size := by omega
   have HAL := Aside0.mk (below_alloc (Below.refl wr.heap.size wr) (.cells #[.int .i64 X.f0, .int .i64 X.f1, .string X.f2, .string X.f3, .string X.f4, .slice A5 m5 c5, .slice A6 m6 c6] 63))
   have HNEW := Aside0.mk (World.alloc_heap_new wr (.cells #[.int .i64 X.f0, .int .i64 X.f1, .string X.f2, .string X.f3, .string X.f4, .slice A5 m5 c5, .slice A6 m6 c6] 63))
   obtain ⟨W3, hW3⟩ : ∃ W, wr.alloc (.cells #[.int .i64 X.f0, .int .i64 X.f1, .string X.f2, .string X.f3, .string X.f4, .slice A5 m5 c5, .slice A6 m6 c6] 63) = W := ⟨_, rfl⟩
   have hgb : W3.heap.size = wr.heap.size + 1 := by rw [← hW3]; simp
   obtain ⟨gb, hgbe⟩ : ∃ b, wr.heap.size = b := ⟨_, rfl⟩
   rw [hW3] at HAL HNEW
   rw [hgbe] at HNEW hgb
   have hgl : g < W3.heap.size := by omega
   have hf5' : W3.frozen? ⟨g, j * 7 + 5, none⟩ = false := (HAL.out.frozen (p := ⟨g, j * 7 + 5, none⟩) hg2).trans hf5
   have hf6' : W3.frozen? ⟨g, j * 7 + 6, none⟩ = false := (HAL.out.frozen (p := ⟨g, j * 7 + 6, none⟩) hg2).trans hf6
   have HG2 := Aside0.mk hg2
   have HG3 := Aside0.mk hgb
   have hne2 : g ≠ gb := by omega
   have hw5 : W3.cell? ⟨g, j * 7 + 5, none⟩ = some (.slice A5 m5 c5) := (HAL.out.cell (p := ⟨g, j * 7 + 5, none⟩) hg2).trans hx5
   have hw6 : W3.cell? ⟨g, j * 7 + 6, none⟩ = some (.slice A6 m6 c6) := (HAL.out.cell (p := ⟨g, j * 7 + 6, none⟩) hg2).trans hx6
   have y0 : W3.cell? ⟨w.heap.size, 0, none⟩ = some (.slice (some ⟨g, 0, none⟩) n cC) := blk_cell (blk_below HXA.out HAL.out) 0
   have y5 : W3.cell? ⟨gb, 5, none⟩ = some (.slice A5 m5 c5) := blk_cell HNEW.out 5
   have y6 : W3.cell? ⟨gb, 6, none⟩ = some (.slice A6 m6 c6) := blk_cell HNEW.out 6
   have HGB := Aside0.mk hgbe
   clear hm5 hm6 hcc hfr hfk hl5 hC5 hl6 hC6 hrl hcl e hgc hs7 hX hg2 hf5 hf6
   go_wp2_with fail
   (try rw [hgbe])
   clear hW3 hgbe hx0 hx1 hx2 hx3 hx4 hx5 hx6 x0 HNEW
   go_region_held3 (fun w' => w'.cell? ⟨w.heap.size, 0, none⟩ = some (.slice (some ⟨g, 0, none⟩) n cC) ∧ w'.cell? ⟨gb, 5, none⟩ = some (.slice A5 m5 c5) ∧ w'.cell? ⟨gb, 6, none⟩ = some (.slice A6 m6 c6)) (first | exact ⟨(World.cell?_setCell_other _ _ _ _ (by simp; omega)).trans (pw_cell_below HBD.out (pw_cell_below HBC.out y0)), (World.cell?_setCell_other _ _ _ _ (by simp; omega)).trans (pw_cell_below HBD.out (pw_cell_below HBC.out y5)), (World.cell?_setCell_other _ _ _ _ (by simp; omega)).trans (pw_cell_below HBD.out (pw_cell_below HBC.out y6))⟩ | exact ⟨pw_cell_below HBD.out (pw_cell_below HBC.out y0), pw_cell_below HBD.out (pw_cell_below HBC.out y5), pw_cell_below HBD.out (pw_cell_below HBC.out y6)⟩ | exact ⟨pw_cell_below HBC.out y0, pw_cell_below HBC.out y5, pw_cell_below HBC.out y6⟩ | exact ⟨y0, y5, y6⟩ | go_keep) (first | (go_at_call 56; refine (HCL5.out _ (HAL.out.trans ((below_drew1 (Below.refl W3.heap.size W3)).mono HAL.out.size))).mono ?_; rintro e wC ⟨vC, rfl, hoC, hbC⟩; obtain ⟨AC5, cC5, rfl⟩ := Kd.R_slice hoC; have HOC := Aside0.mk hoC; have HBC := Aside0.mk ((below_drew1 (Below.refl W3.heap.size W3)).trans (hbC.mono (below_size (below_drew1 (Below.refl _ _))))); clear hoC hbC) | (go_at_call 63; refine (HCL6.out _ (HAL.out.trans (HBC.out.mono HAL.out.size))).mono ?_; rintro e wD ⟨vD, rfl, hoD, hbD⟩; obtain ⟨AD6, cD6, rfl⟩ := Kd.R_slice hoD; have HOD := Aside0.mk hoD; have HBD := Aside0.mk hbD; have zf5 : wD.frozen? ⟨g, j * 7 + 5, none⟩ = false := ((HBC.out.trans (hbD.mono HBC.out.size)).frozen (p := ⟨g, j * 7 + 5, none⟩) hgl).trans hf5'; have zf6 : wD.frozen? ⟨g, j * 7 + 6, none⟩ = false := ((HBC.out.trans (hbD.mono HBC.out.size)).frozen (p := ⟨g, j * 7 + 6, none⟩) hgl).trans hf6'; have zc5 := pw_cell_below (HBC.out.trans (hbD.mono HBC.out.size)) hw5; have zc6 := pw_cell_below (HBC.out.trans (hbD.mono HBC.out.size)) hw6; clear hoD hbD))
   have HBW := Aside0.mk (HAL.out.trans (((HBC.out).trans (HBD.out.mono HBC.out.size)).mono HAL.out.size))
   have hM : k63.M wD bb (fun q => wr.heap.size ≤ q) ns[j] ([.int .i64 X.f0, .int .i64 X.f1, .string X.f2, .string X.f3, .string X.f4, .slice A5 m5 c5, .slice A6 m6 c6].take 5 ++ [.slice AC5 X.f5.length cC5, .slice AD6 X.f6.length cD6] ++ [.int .i64 X.f0, .int .i64 X.f1, .string X.f2, .string X.f3, .string X.f4, .slice A5 m5 c5, .slice A6 m6 c6].drop 7) := by
    rw [HX.out]
    exact k63_mkM wD bb _ X (Kd.R_below (Kd.R_lower (Kd.R_mono (Kd.R_bound HOC.out) (fun q hq => by have h2 : W3.heap.size ≤ q := hq.2.1; have := HG3.out; have := HGB.out; omega)) (show bb ≤ W3.drew.heap.size from by show bb ≤ W3.heap.size; have := HG2.out; have := HG3.out; have := HGB.out; omega)) HBD.out) (Kd.R_lower (Kd.R_mono (Kd.R_bound HOD.out) (fun q hq => by have h2 : wC.heap.size ≤ q := hq.2.1; have := HBC.out.size; have := HG3.out; have := HGB.out; omega)) (by have := HBC.out.size; have := HG2.out; have := HG3.out; have := HGB.out; omega))
   have HPN := Aside0.mk (Kd.PartS_store (W1 := wD) (c := [.int .i64 X.f0, .int .i64 X.f1, .string X.f2, .string X.f3, .string X.f4, .slice A5 m5 c5, .slice A6 m6 c6]) (seg := [.slice AC5 X.f5.length cC5, .slice AD6 X.f6.length cD6]) (j := 5) (okp := fun q => wr.heap.size ≤ q) HP.out hlt' (by omega) rfl (fun i u hu => HCC.out i u (by rw [HM5.out, HM6.out]; exact hu)) HBW.out (show 5 + 2 ≤ 7 by omega) hM (fun _ h => h))
   have HXAN := Aside0.mk (blk_far (blk_far (blk_below HXA.out HBW.out) (p := ⟨g, j * 7 + 5, none⟩) (by show w.heap.size ≠ g; omega) (.slice AC5 X.f5.length cC5)) (p := ⟨g, j * 7 + 6, none⟩) (by show w.heap.size ≠ g; omega) (.slice AD6 X.f6.length cD6))
   have HXBN := Aside0.mk (blk_far (blk_far (blk_below HXB.out HBW.out) (p := ⟨g, j * 7 + 5, none⟩) (by show w.heap.size + 1 ≠ g; omega) (.slice AC5 X.f5.length cC5)) (p := ⟨g, j * 7 + 6, none⟩) (by show w.heap.size + 1 ≠ g; omega) (.slice AD6 X.f6.length cD6))
   have HBN := Aside0.mk (((HB.out.trans (HBW.out.mono HB.out.size)).setCell (p := ⟨g, j * 7 + 5, none⟩) (by show w.heap.size ≤ g; omega) (.slice AC5 X.f5.length cC5)).setCell (p := ⟨g, j * 7 + 6, none⟩) (by show w.heap.size ≤ g; omega) (.slice AD6 X.f6.length cD6))
   clear hM
   go_wp2_with fail
   exact ⟨⟨j + 1, by omega, by go_num, HPN, HXAN, HXBN, HBN⟩, by simp [intOf]; omega⟩
  ·
   obtain rfl : j = n := by omega
   have x0 : wr.cell? ⟨w.heap.size, 0, none⟩ = some (.slice AC j cC) := blk_cell HXA.out 0
   have x1 : wr.cell? ⟨w.heap.size, 1, none⟩ = some (.int .i64 r) := blk_cell HXA.out 1
   have x2 : wr.cell? ⟨w.heap.size, 2, none⟩ = some (.int .i64 nx) := blk_cell HXA.out 2
   have u0 : wr.cell? ⟨w.heap.size + 1, 0, none⟩ = some (.slice none 0 0) := blk_cell HXB.out 0
   have u1 : wr.cell? ⟨w.heap.size + 1, 1, none⟩ = some (.int .i64 0) := blk_cell HXB.out 1
   have u2 : wr.cell? ⟨w.heap.size + 1, 2, none⟩ = some (.int .i64 0) := blk_cell HXB.out 2
   have uf : ∀ i, wr.frozen? ⟨w.heap.size + 1, i, none⟩ = false := fun i => by simp [World.frozen?, HXB.out]
   have hfin := Kd.PartS_end (d := k63) (e := 63) (W := wr) (base := bb) (N := w.heap.size) (v := .slice AC j cC) (xs := ns) (by rw [HN.out]; exact HP.out)
   have HXB1 := Aside0.mk (blk_put HXB.out 0 (.slice AC j cC) rfl)
   have HXB2 := Aside0.mk (blk_put HXB1.out 1 (.int .i64 r) rfl)
   have HF1 := Aside0.mk (Kd.S_lower (Kd.S_set (Kd.S_set (Kd.S_set hfin HXB.out (by decide) 0 (.slice AC j cC)) HXB1.out (by decide) 1 (.int .i64 r)) HXB2.out (by decide) 2 (.int .i64 nx)) (show w.heap.size ≤ bb by omega))
   have HBF := Aside0.mk (((HB.out.setCell (p := ⟨w.heap.size + 1, 0, none⟩) (by show w.heap.size ≤ w.heap.size + 1; omega) (.slice AC j cC)).setCell (p := ⟨w.heap.size + 1, 1, none⟩) (by show w.heap.size ≤ w.heap.size + 1; omega) (.int .i64 r)).setCell (p := ⟨w.heap.size + 1, 2, none⟩) (by show w.heap.size ≤ w.heap.size + 1; omega) (.int .i64 nx))
   have HXF := Aside0.mk (blk_put HXB2.out 2 (.int .i64 nx) rfl)
   clear hfin HXB1 HXB2
   go_wp2_with fail
   exact bodyPost_ret (results_cell_row rfl _ _ (w.heap.size + 1) 28 #[.slice AC j cC, .int .i64 r, .int .i64 nx] (0, 0) _ rfl HXF.out Try.underlying28 rfl (by kernel_rfl)) rfl ⟨_, rfl, HF1.out, HBF.out⟩
theorem dom_Clone.calls (A0_0 : Option Addr) (c0_0 : Nat) (l0_0 : List S63) (a0_1 a0_2 : Int) (r1 : List S63) (r2 r3 : Int) (w : World) (hr0_0 : Kd.C k63 w A0_0 l0_0.length l0_0) (hc0_0 : l0_0.length ≤ c0_0) (h : dom_Clone.f l0_0 a0_1 a0_2 = some (r1, r2, r3)) :
  Calls Try.prog 33 #[.agg #[.slice A0_0 l0_0.length c0_0, .int .i64 a0_1, .int .i64 a0_2]] w fun e w' => ∃ v0_ : Value, e = .returned (.agg #[v0_, .int .i64 r2, .int .i64 r3]) ∧ Kd.S k63 63 w' w.heap.size (fun _ => True) v0_ r1 ∧ Below w.heap.size w w' := by
 unfold dom_Clone.f at h
 split at h
 ·
  rename_i hk
  injection h with h
  injection h with h1 h
  injection h with h2 h3
  subst h1 h2 h3
  exact domclone_is A0_0 c0_0 _ l0_0 a0_1 a0_2 w hr0_0 rfl hk.1 hk.2
 ·
  cases h
end Go.Proofs.Ytleofbidijbahaa.D
