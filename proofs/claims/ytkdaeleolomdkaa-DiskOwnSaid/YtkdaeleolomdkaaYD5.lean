import Derived.Test.YtkdaeleolomdkaaYD0
import Derived.Test.YtkdaeleolomdkaaYD3
namespace Go.Proofs.Ytkdaeleolomdkaa.D
open Go.RowKit Go.Proofs.YtkdaeleolomdkaaW.PrintWords Go.Proofs.YtkdaeleolomdkaaW.PrintLast Go.Proofs.YtkdaeleolomdkaaW.PrintMore
attribute [local go_sem] max2_int min2_int max_two min_two max_three min_three max_four min_four   -- for this text's walks alone
set_option linter.unusedVariables false
set_option linter.unusedSimpArgs false
def disk_State_clone.f (l0_0 : List (List Int)) (l0_1 : List S57) : Option (List (List Int) × List S57) := if l0_0.length ≤ 1000000 ∧ l0_1.length ≤ 1000000 ∧ (∀ s ∈ l0_0, s.length < 140737488355328) ∧ (∀ x ∈ l0_1, x.f2.length < 140737488355328) then some (l0_0, l0_1) else none
def PartT {α : Type} (okE : Nat → Prop) (d : Kd α) (e : Nat) (W : World) (base N : Nat) (v : Value) (xs : List α) (m : Nat) : Prop :=
 ∃ (rows : List (List Value)) (f : Nat → Nat), rows.length = xs.length ∧ (Kd.raw d.sz).R e W base (fun _ => True) v rows ∧
  ∀ (j : Nat) (x : α) (c : List Value), xs[j]? = some x → rows[j]? = some c → (j < m → d.M W base (fun k => okE k ∧ some k ≠ v.ownBlock ∧ f k = j) x c) ∧ (m ≤ j → Kd.FK d W (fun k => k < N) x c)
section
variable {α : Type} {okE : Nat → Prop} {d : Kd α} {e base N n cap g m : Nat} {W W1 : World} {v : Value} {xs : List α}
theorem PartT_start (h : Kd.PartS d e W base N v xs 0) : PartT okE d e W base N v xs 0 := by
 obtain ⟨rows, f, hl, hR, hf⟩ := h
 exact ⟨rows, f, hl, hR, fun j x c hx hc => ⟨fun hj => by omega, fun hj => (hf j x c hx hc).2 hj⟩⟩
theorem PartT_typed (h : PartT okE d e W base N v xs m) : ∀ k, v.ownBlock = some k → ∃ cells, W.heap[k]? = some (.cells cells e (0, 0)) := by
 obtain ⟨rows, f, hl, hR, hf⟩ := h
 exact Kd.R_typed hR
theorem PartT_form (h : PartT okE d e W base N v xs m) (hp : 0 < xs.length) : ∃ g cap, v = .slice (some ⟨g, 0, none⟩) xs.length cap ∧ base ≤ g ∧ g < W.heap.size ∧ ∃ cells, W.heap[g]? = some (.cells cells e (0, 0)) := by
 obtain ⟨rows, f, hl, hR, _⟩ := h
 rw [← hl] at hp ⊢
 exact Kd.R_form hR hp
theorem PartT_cells (h : PartT okE d e W base N (.slice (some ⟨g, 0, none⟩) n cap) xs m) (i : Nat) (hi : i < xs.length) :
  ∃ c, c.length = d.sz ∧ (∀ j u, c[j]? = some u → W.cell? ⟨g, i * d.sz + j, none⟩ = some u) ∧ (∀ j, W.frozen? ⟨g, i * d.sz + j, none⟩ = false) ∧ (m ≤ i → Kd.FK d W (fun k => k < N) xs[i] c) := by
 obtain ⟨rows, f, hl, hR, hf⟩ := h
 have hn := (Kd.R_reads' hR).1
 obtain ⟨c, hcl, hM, hcc, hfr⟩ := Kd.R_elem hR [] (i : Int) (by omega) (by omega)
 simp only [Int.toNat_natCast] at hcc hfr hM
 have hil : i < rows.length := by omega
 have hc : c = rows[i] := by
  have h2 := hM.1
  rwa [List.getD_eq_getElem?_getD, List.getElem?_eq_getElem hil] at h2
 exact ⟨c, hcl, hcc, hfr, fun hmi => (hf i _ c (List.getElem?_eq_getElem hi) (by rw [hc]; exact List.getElem?_eq_getElem hil)).2 hmi⟩
theorem PartT_store (h : PartT okE d e W base N (.slice (some ⟨g, 0, none⟩) n cap) xs m) (hm : m < xs.length) (hN : N ≤ base) {c seg : List Value} {j : Nat} (hcl : c.length = d.sz) (hcc : ∀ j u, c[j]? = some u → W.cell? ⟨g, m * d.sz + j, none⟩ = some u)
  (hb : Below W.heap.size W W1) (hj : j + seg.length ≤ d.sz) {okp : Nat → Prop} (hM : d.M W1 base okp xs[m] (c.take j ++ seg ++ c.drop (j + seg.length))) (hokp : ∀ k, okp k → W.heap.size ≤ k) (hokE : ∀ k, okp k → okE k) :
  PartT okE d e (W1.setCells g (m * d.sz + j) seg) base N (.slice (some ⟨g, 0, none⟩) n cap) xs (m + 1) := by
 obtain ⟨rows, f, hl, hR, hf⟩ := h
 have hn := (Kd.R_reads' hR).1
 have hgo : some g = (Value.slice (some ⟨g, 0, none⟩) n cap).ownBlock := by simp [Value.ownBlock]
 have hgl := Kd.R_lt hR g hgo.symm
 have hgb := Kd.R_base hR g hgo.symm
 have hR1 := Kd.R_below hR hb
 have hcc1 : ∀ j u, c[j]? = some u → W1.cell? ⟨g, (m : Int).toNat * d.sz + j, none⟩ = some u := fun j u hu => by
  rw [Int.toNat_natCast]
  exact (hb.cell (p := ⟨g, m * d.sz + j, none⟩) hgl).trans (hcc j u hu)
 obtain ⟨h2, h3⟩ := Kd.R_seg hR1 (m : Int) (by omega) (by omega) (c := c) (seg := seg) (j := j) (x' := c.take j ++ seg ++ c.drop (j + seg.length)) (okp := fun _ => False) hcl hcc1 hj ⟨rfl, d.K_len (d.K_of_M hM), d.K_one (d.K_of_M hM)⟩ (fun _ hk => hk.elim)
 simp only [Int.toNat_natCast] at h2 h3
 refine ⟨rows.set m (c.take j ++ seg ++ c.drop (j + seg.length)), fun k => if W.heap.size ≤ k then m else f k, by rw [List.length_set, hl], h2, fun i x q hx hq => ?_⟩
 by_cases hi : i = m
 ·
  subst hi
  rw [List.getElem?_set_self (by omega)] at hq
  injection hq with hq
  subst hq
  rw [List.getElem?_eq_getElem hm] at hx
  injection hx with hx
  subst hx
  refine ⟨fun _ => ?_, fun h => by omega⟩
  have := Kd.M_grown hM h3 (fun k hk he => by have := hokp k hk; injection he with he; omega)
  refine d.M_mono (fun k hk => ⟨hokE k hk, fun he => ?_, ?_⟩) this
  ·
   rw [← hgo] at he; injection he with he; have := hokp k hk; omega
  ·
   show (if W.heap.size ≤ k then _ else f k) = _
   rw [if_pos (hokp k hk)]
 ·
  rw [List.getElem?_set_ne (Ne.symm hi)] at hq
  obtain ⟨f1, f2⟩ := hf i x q hx hq
  refine ⟨fun hlt => ?_, fun hle => ?_⟩
  ·
   have h4 := d.M_bound (f1 (by omega))
   have h5 := Kd.M_below h4 hb
   have h6 := Kd.M_grown h5 h3 (fun k hk he => hk.1.2.1 (by rw [he]; exact hgo))
   refine d.M_mono (fun k hk => ⟨hk.1.1, hk.1.2.1, ?_⟩) h6
   have hlt2 := hk.2.2.1
   show (if W.heap.size ≤ k then _ else f k) = _
   rw [if_neg (by omega)]
   exact hk.1.2.2
  ·
   exact Kd.FK_grown (Kd.FK_below (f2 (by omega)) hb) h3 (fun k hk he => by injection he with he; omega)
theorem PartT_end (h : PartT okE d e W base N v xs xs.length) : Kd.S d e W base (fun k => okE k ∨ some k = v.ownBlock) v xs := by
 obtain ⟨rows, f, hl, hR, hf⟩ := h
 obtain ⟨h0, inner, hown, hr⟩ := hR
 refine ⟨f, fun k hk => .inr hk.symm, inner, by rw [List.length_zipIdx, ← hl]; exact hown, by rw [List.length_zipIdx, ← hl]; exact hr.1, fun j p hj => ?_⟩
 rw [List.getElem?_zipIdx, Nat.zero_add] at hj
 obtain ⟨q, hq, rfl⟩ := Option.map_eq_some_iff.1 hj
 have hjl : j < xs.length := (List.getElem?_eq_some_iff.1 hq).1
 have hc := (hr.2 j _ (List.getElem?_eq_getElem (by omega))).1
 have h1 := (hf j q rows[j] hq (List.getElem?_eq_getElem (by omega))).1 hjl
 show d.M W base _ q ((inner.drop (j * d.sz)).take d.sz)
 have hc' : (inner.drop (j * d.sz)).take d.sz = rows[j] := hc
 rw [hc']
 exact d.M_mono (fun k hk => ⟨⟨.inl hk.1, hk.2.1⟩, hk.2.2⟩) h1
end
theorem cloneRows (A0 : Option Addr) (c0 : Nat) (l0 : List (List Int)) (w : World) (N : Nat) (hN : N ≤ w.heap.size) (hf0 : Kd.F (Kd.slice 5 (Kd.int .u8)) w (fun k => k < N) A0 l0.length l0) (hlen : l0.length ≤ 1000000) :
  Calls Try.prog 77 #[.slice A0 l0.length c0] w fun e w' => ∃ v : Value, e = .returned v ∧ Kd.PartS (Kd.slice 5 (Kd.int .u8)) 22 w' w.heap.size N v l0 0 ∧ Below w.heap.size w w' := by
 have hr0 := Kd.F_now hf0
 cases A0 with
 | none =>
  have e0 : l0 = [] := by
   cases l0 with
   | nil => rfl
   | cons x xs =>
    obtain ⟨ad, c, e, _⟩ := Kd.C_get hr0 ([] : List Int) 0 (by omega) (by simp)
    cases e
  subst e0
  have hq := fun W : World => Lib.run_eql_slice_nil (P := Try.prog) W 52 22 none (List.length ([] : List (List Int))) c0 0 0 Try.underlying52
  simp only [List.length_nil] at hq
  clear hr0 hf0 hN
  go_enter Try.func77, Try.ntmps77
  go_wp2
  go_ret
  exact ⟨_, rfl, Kd.PartS_start (rows := []) (Kd.R_nil _ _ _ _ _) rfl (fun j x c hx => by simp at hx), Below.refl _ _⟩
 | some ad =>
  have hq := fun W : World => Lib.run_eql_slice_nil (P := Try.prog) W 52 22 (some ad) l0.length c0 0 0 Try.underlying52
  have HF0 := Aside0.mk hf0
  have HL0 := Aside0.mk hlen
  have HN0 := Aside0.mk hN
  clear hr0 hlen hf0 hN
  go_enter Try.func77, Try.ntmps77
  go_wp2_with (first | ((with_reducible refine gate_dst (N := 5) rfl ?_); refine Kd.R_lit (Kd.raw 1) (w0 := w) w.heap.size 22 ?hg (N := 5) ?hd (xs := ([] : List (List Value))) (inner := []) (ok := fun _ => True) (okp := fun _ => True) ?hr ?hp (fun _ hk => hk) trivial (Below.refl _ _) (Nat.le_refl _) (by simp) ?_; (case hd => rfl); (case hg => rfl); (case hr => first | (go_simp; done) | (go_simp; rfl)); (case hp => exact Reps.none _ _); intro v102 w2 ho3 hb hg_ hnew_; clear hg_ hnew_; have HO := Aside0.mk ho3; have HB := Aside0.mk hb; clear hb ho3) | ((with_reducible refine gate_builtin (b := .append) (xs := #[.tmp 5, .tmp 6]) rfl ?_); at_builtin; refine Kd.PartS_append_rows (Kd.slice 5 (Kd.int .u8)) (w0 := w) w.heap.size N rfl (.tmp 5) (.tmp 6) 52 22 (.slice none 0 0) 24 rfl Try.underlying52 info22 rfl (by decide) (by omega) v102 l0 _ _ _ rfl rfl ?aO ?aR HN0.out ?aB ?aS ?aL ?_; (case aR => exact (Kd.F_below HF0.out HB.out)); (case aB => exact HB.out); (case aO => exact HO.out); (case aS => exact (below_size HB.out)); (case aL => have := HL0.out; omega); intro v121 w3 ho hb; have HP := Aside0.mk ho; have HB3 := Aside0.mk hb; clear ho hb))
  go_ret
  exact ⟨_, rfl, HP.out, HB3.out⟩
theorem cloneWrites (A0 : Option Addr) (c0 : Nat) (l0 : List S57) (w : World) (N : Nat) (hN : N ≤ w.heap.size) (hf0 : Kd.F k57 w (fun k => k < N) A0 l0.length l0) (hlen : l0.length ≤ 1000000) :
  Calls Try.prog 78 #[.slice A0 l0.length c0] w fun e w' => ∃ v : Value, e = .returned v ∧ Kd.PartS k57 57 w' w.heap.size N v l0 0 ∧ Below w.heap.size w w' := by
 have hr0 := Kd.F_now hf0
 cases A0 with
 | none =>
  have e0 : l0 = [] := by
   cases l0 with
   | nil => rfl
   | cons x xs =>
    obtain ⟨ad, c, e, _⟩ := Kd.C_get hr0 z57 0 (by omega) (by simp)
    cases e
  subst e0
  have hq := fun W : World => Lib.run_eql_slice_nil (P := Try.prog) W 53 57 none (List.length ([] : List S57)) c0 0 0 Try.underlying53
  simp only [List.length_nil] at hq
  clear hr0 hf0 hN
  go_enter Try.func78, Try.ntmps78
  go_wp2
  go_ret
  exact ⟨_, rfl, Kd.PartS_start (rows := []) (Kd.R_nil _ _ _ _ _) rfl (fun j x c hx => by simp at hx), Below.refl _ _⟩
 | some ad =>
  have hq := fun W : World => Lib.run_eql_slice_nil (P := Try.prog) W 53 57 (some ad) l0.length c0 0 0 Try.underlying53
  have HF0 := Aside0.mk hf0
  have HL0 := Aside0.mk hlen
  have HN0 := Aside0.mk hN
  clear hr0 hlen hf0 hN
  go_enter Try.func78, Try.ntmps78
  go_wp2_with (first | ((with_reducible refine gate_dst (N := 5) rfl ?_); refine Kd.R_lit (Kd.raw 3) (w0 := w) w.heap.size 57 ?hg (N := 5) ?hd (xs := ([] : List (List Value))) (inner := []) (ok := fun _ => True) (okp := fun _ => True) ?hr ?hp (fun _ hk => hk) trivial (Below.refl _ _) (Nat.le_refl _) (by simp) ?_; (case hd => rfl); (case hg => rfl); (case hr => first | (go_simp; done) | (go_simp; rfl)); (case hp => exact Reps.none _ _); intro v102 w2 ho3 hb hg_ hnew_; clear hg_ hnew_; have HO := Aside0.mk ho3; have HB := Aside0.mk hb; clear hb ho3) | ((with_reducible refine gate_builtin (b := .append) (xs := #[.tmp 5, .tmp 6]) rfl ?_); at_builtin; refine Kd.PartS_append_rows k57 (w0 := w) w.heap.size N rfl (.tmp 5) (.tmp 6) 53 57 (.agg #[(.bool false), (.int .i64 0), (.slice none 0 0)]) 40 rfl Try.underlying53 info57 rfl (by decide) (by omega) v102 l0 _ _ _ rfl rfl ?aO ?aR HN0.out ?aB ?aS ?aL ?_; (case aR => exact (Kd.F_below HF0.out HB.out)); (case aB => exact HB.out); (case aO => exact HO.out); (case aS => exact (below_size HB.out)); (case aL => have := HL0.out; omega); intro v121 w3 ho hb; have HP := Aside0.mk ho; have HB3 := Aside0.mk hb; clear ho hb))
  go_ret
  exact ⟨_, rfl, HP.out, HB3.out⟩
set_option maxRecDepth 100000 in
set_option maxHeartbeats 4000000 in
theorem diskclone1 (A0 : Option Addr) (c0 : Nat) (l0 : List (List Int)) (A1 : Option Addr) (c1 : Nat) (l1 : List S57) (w : World) (hr0 : Kd.C (Kd.slice 5 (Kd.int .u8)) w A0 l0.length l0) (hr1 : Kd.C k57 w A1 l1.length l1) (hlen0 : l0.length ≤ 1000000) (hlen1 : l1.length ≤ 1000000) (hel0 : ∀ s ∈ l0, s.length < 140737488355328) (hel1 : ∀ x ∈ l1, x.f2.length < 140737488355328) :
  Calls Try.prog 54 #[.agg #[.slice A0 l0.length c0, .slice A1 l1.length c1]] w fun e w' => ∃ (v0_ v1_ : Value) (P : Nat → Prop), e = .returned (.agg #[v0_, v1_]) ∧ Kd.S (Kd.slice 5 (Kd.int .u8)) 22 w' w.heap.size P v0_ l0 ∧ Kd.S k57 57 w' w.heap.size (fun k => ¬ P k) v1_ l1 ∧ Below w.heap.size w w' := by
 have HC0 := Aside0.mk (fun (W : World) (hW : Below w.heap.size w W) => cloneRows A0 c0 l0 W w.heap.size hW.size (Kd.F_below (Kd.C_F (Kd.heap_slice _ (Kd.heap_int .u8)) hr0) hW) hlen0)
 have HC1 := Aside0.mk (fun (W : World) (hW : Below w.heap.size w W) => cloneWrites A1 c1 l1 W w.heap.size hW.size (Kd.F_below (Kd.C_F (Kd.heap_iso _ (Kd.heap_pair Kd.heap_bool (Kd.heap_pair (Kd.heap_int .i64) (Kd.heap_slice _ (Kd.heap_int .u8))))) hr1) hW) hlen1)
 have HE0 := Aside0.mk hel0
 have HE1 := Aside0.mk hel1
 obtain ⟨n0, hn0⟩ : ∃ n, l0.length = n := ⟨_, rfl⟩
 obtain ⟨n1, hn1⟩ : ∃ n, l1.length = n := ⟨_, rfl⟩
 have HN0 := Lib.hid hn0
 have HN1 := Lib.hid hn1
 rw [hn0] at HC0 hlen0 ⊢
 rw [hn1] at HC1 hlen1 ⊢
 clear hr0 hr1 hel0 hel1 hn0 hn1
 have HB0 := Aside0.mk (below_alloc (below_alloc (Below.refl w.heap.size w) (.cells #[.slice A0 n0 c0, .slice A1 n1 c1] 58)) (.cells #[.slice none 0 0, .slice none 0 0] 58))
 have HXA := Aside0.mk ((Below.heap_alloc (w.alloc (.cells #[.slice A0 n0 c0, .slice A1 n1 c1] 58)) (.cells #[.slice none 0 0, .slice none 0 0] 58) w.heap.size (by simp)).trans (World.alloc_heap_new w (.cells #[.slice A0 n0 c0, .slice A1 n1 c1] 58)))
 have HXB := Aside0.mk (World.alloc_heap_new (w.alloc (.cells #[.slice A0 n0 c0, .slice A1 n1 c1] 58)) (.cells #[.slice none 0 0, .slice none 0 0] 58))
 simp only [World.size_alloc] at HXB
 obtain ⟨w1, hw1⟩ : ∃ W, (w.alloc (.cells #[.slice A0 n0 c0, .slice A1 n1 c1] 58)).alloc (.cells #[.slice none 0 0, .slice none 0 0] 58) = W := ⟨_, rfl⟩
 go_enter Try.func54, Try.ntmps54
 go_upto_region 1 with (fail)
 rw [hw1] at HB0 HXA HXB
 clear hw1
 have x0 : w1.cell? ⟨w.heap.size, 0, none⟩ = some (.slice A0 n0 c0) := blk_cell HXA.out 0
 have x1 : w1.cell? ⟨w.heap.size, 1, none⟩ = some (.slice A1 n1 c1) := blk_cell HXA.out 1
 have xf : ∀ i, w1.frozen? ⟨w.heap.size, i, none⟩ = false := fun i => by simp [World.frozen?, HXA.out]
 refine start_ (n := 10) (S := fun w' => w'.cell? ⟨w.heap.size, 0, none⟩ = some (.slice A0 n0 c0) ∧ w'.cell? ⟨w.heap.size, 1, none⟩ = some (.slice A1 n1 c1)) (ds := [7, 9]) #[false, false, false, false, false, false, false, false, false, false] (by kernel_rfl) rfl rfl ⟨x0, x1⟩ (fun hHeld => ?_)
 refine pure_ (i := 0) (N := some 7) (v := ?_) (a' := ?_) #[true, false, false, false, false, false, false, false, false, false] rfl rfl (by kernel_rfl) (fun _ _ _ h => h) (Or.inl ⟨by rfl, ?_⟩) ?_ ?_
 rotate_left
 ·
  intro w'
  go_simp
  with_reducible rfl
 rotate_left
 ·
  simp only [Act.put, List.setIfInBounds_toArray, List.set_cons_zero, List.set_cons_succ, i64_w, i32_w]
  rfl
 refine pure_ (i := 3) (N := some 10) (v := ?_) (a' := ?_) #[true, false, false, true, false, false, false, false, false, false] rfl rfl (by kernel_rfl) (fun _ _ _ h => h) (Or.inl ⟨by rfl, ?_⟩) ?_ ?_
 rotate_left
 ·
  intro w'
  go_simp
  with_reducible rfl
 rotate_left
 ·
  simp only [Act.put, List.setIfInBounds_toArray, List.set_cons_zero, List.set_cons_succ, i64_w, i32_w]
  rfl
 refine take_ (i := 1) (N := some 8) (v := ?_) (a' := ?_) #[true, true, false, true, false, false, false, false, false, false] rfl rfl (by kernel_rfl) (fun _ _ _ h => h) (Or.inl ⟨by rfl, ?_⟩) hHeld ?_ ?_
 rotate_left
 ·
  rintro w' ⟨s0, s1⟩
  go_simp
  with_reducible rfl
 rotate_left
 ·
  simp only [Act.put, List.setIfInBounds_toArray, List.set_cons_zero, List.set_cons_succ, i64_w, i32_w]
  rfl
 refine take_ (i := 4) (N := some 11) (v := ?_) (a' := ?_) #[true, true, false, true, true, false, false, false, false, false] rfl rfl (by kernel_rfl) (fun _ _ _ h => h) (Or.inl ⟨by rfl, ?_⟩) hHeld ?_ ?_
 rotate_left
 ·
  rintro w' ⟨s0, s1⟩
  go_simp
  with_reducible rfl
 rotate_left
 ·
  simp only [Act.put, List.setIfInBounds_toArray, List.set_cons_zero, List.set_cons_succ, i64_w, i32_w]
  rfl
 refine one_ (i := 2) (N := some 9) #[true, true, true, true, true, false, false, false, false, false] rfl rfl (by kernel_rfl) (by decide) (fun K hK => ?_)
 refine goes_ Try.func77 (by kernel_rfl) rfl #[.slice A0 n0 c0] (by rfl) rfl rfl (by (try simp only [List.map_toArray, List.map_cons, List.map_nil]); first | done | rfl) ?_
 refine (HC0.out _ (HB0.out.trans (below_drew1 (Below.refl _ _)))).mono ?_
 rintro e wC ⟨vC, rfl, hoC, hbC⟩
 obtain ⟨AC, cC, rfl⟩ := Kd.PartS_slice hoC
 rw [HN0.out] at hoC ⊢
 have HPC := Aside0.mk hoC
 have HBC := Aside0.mk ((below_drew1 (Below.refl _ _)).trans (hbC.mono (below_size (below_drew1 (Below.refl _ _)))))
 have y0 := pw_cell_below HBC.out x0
 have y1 := pw_cell_below HBC.out x1
 clear hoC hbC
 refine ⟨_, rfl, ?_⟩
 refine hK.out _ _ ⟨y0, y1⟩ (fun hHeld => ?_)
 clear hK K
 refine norm_ (a' := ?_) ?_ ?_
 rotate_left
 ·
  show Act.put _ (some 9) _ = _
  simp only [Act.put, List.setIfInBounds_toArray, List.set_cons_zero, List.set_cons_succ, i64_w, i32_w]
  rfl
 refine pure_ (i := 6) (N := some 13) (v := ?_) (a' := ?_) #[true, true, true, true, true, false, true, false, false, false] rfl rfl (by kernel_rfl) (fun _ _ _ h => h) (Or.inl ⟨by rfl, ?_⟩) ?_ ?_
 rotate_left
 ·
  intro w'
  go_simp
  with_reducible rfl
 rotate_left
 ·
  simp only [Act.put, List.setIfInBounds_toArray, List.set_cons_zero, List.set_cons_succ, i64_w, i32_w]
  rfl
 refine one_ (i := 5) (N := some 12) #[true, true, true, true, true, true, true, false, false, false] rfl rfl (by kernel_rfl) (by decide) (fun K hK => ?_)
 refine goes_ Try.func78 (by kernel_rfl) rfl #[.slice A1 n1 c1] (by rfl) rfl rfl (by (try simp only [List.map_toArray, List.map_cons, List.map_nil]); first | done | rfl) ?_
 refine (HC1.out _ (HB0.out.trans (HBC.out.mono HB0.out.size))).mono ?_
 rintro e wD ⟨vD, rfl, hoD, hbD⟩
 obtain ⟨AD, cD, rfl⟩ := Kd.PartS_slice hoD
 rw [HN1.out] at hoD ⊢
 have HPD := Aside0.mk hoD
 have HBD := Aside0.mk hbD
 have z0 := pw_cell_below HBD.out y0
 have z1 := pw_cell_below HBD.out y1
 have zf : ∀ i, wD.frozen? ⟨w.heap.size, i, none⟩ = false := fun i => by
  have hh := blk_below (blk_below HXA.out HBC.out) HBD.out
  simp [World.frozen?, hh]
 clear hoD hbD
 refine ⟨_, rfl, ?_⟩
 refine hK.out _ _ ⟨z0, z1⟩ (fun hHeld => ?_)
 clear hK K
 refine norm_ (a' := ?_) ?_ ?_
 rotate_left
 ·
  show Act.put _ (some 12) _ = _
  simp only [Act.put, List.setIfInBounds_toArray, List.set_cons_zero, List.set_cons_succ, i64_w, i32_w]
  rfl
 refine last_ (i := 7) (N := none) #[true, true, true, true, true, true, true, true, false, false] rfl rfl (by kernel_rfl) (by decide) (fun K hK => ?_)
 refine skip_ (w1 := ?_) (by rfl) rfl ?_ ?_
 rotate_left
 ·
  go_simp
  rfl
 refine hK.out _ _ ?_
 clear hK K
 refine pure_ (i := 8) (N := some 14) (v := ?_) (a' := ?_) #[true, true, true, true, true, true, true, true, true, false] rfl rfl (by kernel_rfl) (fun _ _ _ h => h) (Or.inl ⟨by rfl, ?_⟩) ?_ ?_
 rotate_left
 ·
  intro w'
  go_simp
  with_reducible rfl
 rotate_left
 ·
  simp only [Act.put, List.setIfInBounds_toArray, List.set_cons_zero, List.set_cons_succ, i64_w, i32_w]
  rfl
 have HXC := Aside0.mk (blk_put (blk_below (blk_below HXA.out HBC.out) HBD.out) 0 (.slice AC n0 cC) rfl)
 have uf : ∀ i, (wD.setCell ⟨w.heap.size, 0, none⟩ (.slice AC n0 cC)).frozen? ⟨w.heap.size, i, none⟩ = false := fun i => by
  have hh := HXC.out
  simp [World.frozen?, hh]
 have u1 : (wD.setCell ⟨w.heap.size, 0, none⟩ (.slice AC n0 cC)).cell? ⟨w.heap.size, 1, none⟩ = some (.slice A1 n1 c1) := blk_cell HXC.out 1
 refine last_ (i := 9) (N := none) #[true, true, true, true, true, true, true, true, true, true] rfl rfl (by kernel_rfl) (by decide) (fun K hK => ?_)
 refine skip_ (w1 := ?_) (by rfl) rfl ?_ ?_
 rotate_left
 ·
  go_simp
  rfl
 refine hK.out _ _ ?_
 clear hK K
 refine done_ (by kernel_rfl) ?_
 have HXA2 := Aside0.mk (blk_put HXC.out 1 (.slice AD n1 cD) rfl)
 have HXBD := Aside0.mk (blk_below (blk_below HXB.out HBC.out) HBD.out)
 have HXB2 := Aside0.mk (blk_far (blk_far HXBD.out (p := ⟨w.heap.size, 0, none⟩) (by show w.heap.size + 1 ≠ w.heap.size; omega) (.slice AC n0 cC)) (p := ⟨w.heap.size, 1, none⟩) (by show w.heap.size + 1 ≠ w.heap.size; omega) (.slice AD n1 cD))
 have hsz1 := HB0.out.size
 have hsz2 := HBC.out.size
 have hA1 := blk_lt HXA.out
 have HBX := Aside0.mk (HB0.out.trans ((HBC.out.trans (HBD.out.mono HBC.out.size)).mono HB0.out.size))
 have HB2 := Aside0.mk ((HBX.out.setCell (p := ⟨w.heap.size, 0, none⟩) (Nat.le_refl _) (.slice AC n0 cC)).setCell (p := ⟨w.heap.size, 1, none⟩) (Nat.le_refl _) (.slice AD n1 cD))
 have hbA := blk_below (blk_below HXA.out HBC.out) HBD.out
 have HP1 := Aside0.mk (Kd.PartS_set (Kd.PartS_set (Kd.PartS_below HPC.out HBD.out) hbA (by decide) (Nat.le_refl _) 0 (.slice AC n0 cC)) HXC.out (by decide) (Nat.le_refl _) 1 (.slice AD n1 cD))
 have HP2 := Aside0.mk (Kd.PartS_set (Kd.PartS_set HPD.out hbA (by decide) (Nat.le_refl _) 0 (.slice AC n0 cC)) HXC.out (by decide) (Nat.le_refl _) 1 (.slice AD n1 cD))
 clear hbA
 have hbb1 : w.heap.size + 2 ≤ w1.drew.heap.size := by
  show w.heap.size + 2 ≤ w1.heap.size
  have := blk_lt HXB.out
  omega
 have hbb2 : w.heap.size + 2 ≤ wC.heap.size := by
  have := blk_lt HXB.out
  omega
 obtain ⟨bb1, hbb1e⟩ : ∃ b, w1.drew.heap.size = b := ⟨_, rfl⟩
 obtain ⟨bb2, hbb2e⟩ : ∃ b, wC.heap.size = b := ⟨_, rfl⟩
 rw [hbb1e] at HP1 hbb1
 rw [hbb2e] at HP2 hbb2
 obtain ⟨W2, hW2⟩ : ∃ W, (wD.setCell ⟨w.heap.size, 0, none⟩ (.slice AC n0 cC)).setCell ⟨w.heap.size, 1, none⟩ (.slice AD n1 cD) = W := ⟨_, rfl⟩
 rw [hW2] at HP1 HP2 HB2 HXA2 HXB2 ⊢
 clear uf u1 HXC zf z0 z1 y0 y1 x0 x1 xf HPC HPD HBC HBD HB0 HXA HXB hW2 HXBD HBX hsz1 hsz2 hA1 hbb1e hbb2e HC0 HC1
 simp only [List.setIfInBounds_toArray, List.set_cons_zero, List.set_cons_succ] at HXA2
 have y0 : W2.cell? ⟨w.heap.size, 0, none⟩ = some (.slice AC n0 cC) := blk_cell HXA2.out 0
 have y1 : W2.cell? ⟨w.heap.size, 1, none⟩ = some (.slice AD n1 cD) := blk_cell HXA2.out 1
 go_wp2_with fail
 go_loopw [18] (fun i wr => ∃ k : Nat, k ≤ n0 ∧ i = .int .i64 k ∧ Aside0 (Kd.PartS (Kd.slice 5 (Kd.int .u8)) 22 wr bb1 w.heap.size (.slice AC n0 cC) l0 k) ∧ Aside0 (Kd.PartS k57 57 wr bb2 w.heap.size (.slice AD n1 cD) l1 0) ∧ Aside0 (wr.heap[w.heap.size]? = some (.cells #[.slice AC n0 cC, .slice AD n1 cD] 58 (0, 0))) ∧ Aside0 (wr.heap[w.heap.size + 1]? = some (.cells #[.slice none 0 0, .slice none 0 0] 58 (0, 0))) ∧ Aside0 (Below w.heap.size w wr)) (fun i _ => n0 - (intOf i).toNat)
 case atStart => exact ⟨0, by omega, rfl, HP1, HP2, HXA2, HXB2, HB2⟩
 case round =>
  clear HP1 HP2 HXA2 HXB2 HB2 y0 y1
  obtain ⟨k, hk, rfl, HP, HP2, HXA, HXB, HB⟩ := hrel
  by_cases hlt : k < n0
  ·
   have hlt' : k < l0.length := by rw [HN0.out]; omega
   obtain ⟨g, cap, e, hg1, hg2, cgs, hgc⟩ := Kd.PartS_form HP.out (by omega)
   obtain ⟨rfl, -, rfl⟩ : AC = some ⟨g, 0, none⟩ ∧ n0 = l0.length ∧ cC = cap := by simpa using e
   obtain ⟨c, hcl, hcc, hfr, hfk⟩ := Kd.PartS_cells HP.out k hlt'
   obtain ⟨A2, c2, rfl, hl2, hC2⟩ := Kd.FK_now (hfk (Nat.le_refl _))
   have hrl := HE0.out l0[k] (List.getElem_mem hlt')
   have hi0 : k * (Kd.slice 5 (Kd.int .u8)).sz + 0 = k := by show k * 1 + 0 = k; omega
   have hx := hcc 0 _ rfl
   have hf0 := hfr 0
   rw [hi0] at hx hf0
   have HCC := Aside0.mk hcc
   have HGC := Aside0.mk hgc
   have HCL := Aside0.mk (fun (W : World) (hW : Below wr.heap.size wr W) => bytes_Clone.calls A2 c2 l0[k] l0[k] W (Kd.C_below hC2 hW) hl2 (by unfold bytes_Clone.f; rw [if_pos hrl]))
   obtain ⟨m, hm⟩ : ∃ m, l0[k].length = m := ⟨_, rfl⟩
   rw [hm] at hx HCL
   have HM := Lib.hid hm
   have HI := Lib.hid hi0
   have x0 : wr.cell? ⟨w.heap.size, 0, none⟩ = some (.slice (some ⟨g, 0, none⟩) n0 cC) := blk_cell HXA.out 0
   have hne : g ≠ w.heap.size := by omega
   clear hm hi0 hcc hfr hfk hl2 hC2 hrl hcl e hgc
   go_wp2_with fail
   go_region_held3 (fun w' => w'.cell? ⟨w.heap.size, 0, none⟩ = some (.slice (some ⟨g, 0, none⟩) n0 cC)) (first | exact pw_cell_below HBC.out x0 | exact x0 | go_keep) ((go_at_call 46; refine (HCL.out _ (below_drew1 (Below.refl _ _))).mono ?_; rintro e wC ⟨vC, rfl, hoC, hbC⟩; obtain ⟨AC, cC, rfl⟩ := Kd.R_slice hoC; have HOC := Aside0.mk hoC; have HBC := Aside0.mk ((below_drew1 (Below.refl _ _)).trans (hbC.mono (below_size (below_drew1 (Below.refl _ _))))); have z0 := pw_cell_below HBC.out x0; have zx := pw_cell_below HBC.out hx; have zf : wC.frozen? ⟨g, k, none⟩ = false := (HBC.out.frozen (p := ⟨g, k, none⟩) hg2).trans hf0; clear hoC hbC))
   have hM : (Kd.slice 5 (Kd.int .u8)).M wC bb1 (fun q => wr.heap.size ≤ q) l0[k] [.slice AC l0[k].length cC] := ⟨_, rfl, Kd.R_lower (Kd.R_mono (Kd.R_bound HOC.out) (fun q hq => hq.2.1)) (show bb1 ≤ wr.drew.heap.size from by show bb1 ≤ wr.heap.size; omega)⟩
   have HPN := Aside0.mk (Kd.PartS_store (W1 := wC) (c := [.slice A2 l0[k].length c2]) (seg := [.slice AC l0[k].length cC]) (j := 0) (okp := fun q => wr.heap.size ≤ q) HP.out hlt' (by omega) rfl HCC.out HBC.out (Nat.le_refl 1) hM (fun _ h => h))
   rw [HI.out] at HPN
   have HPN2 := Aside0.mk (Kd.PartS_set (Kd.PartS_below HP2.out HBC.out) ((HBC.out.block _ hg2).trans HGC.out) (by decide) (by omega) k (.slice AC l0[k].length cC))
   go_wp2_with fail
   exact ⟨⟨k + 1, by omega, by go_num, HPN, HPN2, ⟨blk_far (blk_below HXA.out HBC.out) (p := ⟨g, k, none⟩) (by show w.heap.size ≠ g; omega) _⟩, ⟨blk_far (blk_below HXB.out HBC.out) (p := ⟨g, k, none⟩) (by show w.heap.size + 1 ≠ g; omega) _⟩, ⟨(HB.out.trans (HBC.out.mono HB.out.size)).setCell (p := ⟨g, k, none⟩) (by show w.heap.size ≤ g; omega) _⟩⟩, by simp [intOf]; omega⟩
  ·
   obtain rfl : k = n0 := by omega
   have x0 : wr.cell? ⟨w.heap.size, 0, none⟩ = some (.slice AC k cC) := blk_cell HXA.out 0
   have x1 : wr.cell? ⟨w.heap.size, 1, none⟩ = some (.slice AD n1 cD) := blk_cell HXA.out 1
   have HS := Aside0.mk (Kd.PartS_end (d := Kd.slice 5 (Kd.int .u8)) (e := 22) (W := wr) (base := bb1) (N := w.heap.size) (v := .slice AC k cC) (xs := l0) (by rw [HN0.out]; exact HP.out))
   clear HP
   have hap := Kd.S_mono (Kd.S_apart' (Kd.S_bound HS.out) (PartT_typed (PartT_start (okE := fun _ => True) HP2.out)) (by decide)) (ok' := fun q => q < wr.heap.size ∧ some q ≠ (Value.slice AD n1 cD).ownBlock) (fun q hq => ⟨hq.1.2.2.1, hq.2⟩)
   have HP3 := Aside0.mk (PartT_start (okE := fun q => wr.heap.size ≤ q) HP2.out)
   have HS3 := Aside0.mk hap
   obtain ⟨N1, hN1⟩ : ∃ N, wr.heap.size = N := ⟨_, rfl⟩
   rw [hN1] at HP3 HS3
   have hN1l : N1 ≤ wr.heap.size := by omega
   clear hap HS HP2 hN1
   go_wp2_with fail
   go_loopw [33] (fun i wr => ∃ j : Nat, j ≤ n1 ∧ i = .int .i64 j ∧ Aside0 (PartT (fun q => N1 ≤ q) k57 57 wr bb2 w.heap.size (.slice AD n1 cD) l1 j) ∧ Aside0 (Kd.S (Kd.slice 5 (Kd.int .u8)) 22 wr bb1 (fun q => q < N1 ∧ some q ≠ (Value.slice AD n1 cD).ownBlock) (.slice AC k cC) l0) ∧ Aside0 (wr.heap[w.heap.size]? = some (.cells #[.slice AC k cC, .slice AD n1 cD] 58 (0, 0))) ∧ Aside0 (wr.heap[w.heap.size + 1]? = some (.cells #[.slice none 0 0, .slice none 0 0] 58 (0, 0))) ∧ Aside0 (Below w.heap.size w wr) ∧ Aside0 (N1 ≤ wr.heap.size)) (fun i _ => n1 - (intOf i).toNat)
   case atStart => exact ⟨0, by omega, rfl, HP3, HS3, HXA, HXB, HB, ⟨hN1l⟩⟩
   case round =>
    clear HP3 HS3 HXA HXB HB hN1l x0 x1
    obtain ⟨j, hj, rfl, HP, HS, HXA, HXB, HB, HNL⟩ := hrel
    by_cases hlt : j < n1
    ·
     have hlt' : j < l1.length := by rw [HN1.out]; omega
     obtain ⟨g, cap, e, hg1, hg2, cgs, hgc⟩ := PartT_form HP.out (by omega)
     obtain ⟨rfl, -, rfl⟩ : AD = some ⟨g, 0, none⟩ ∧ n1 = l1.length ∧ cD = cap := by simpa using e
     obtain ⟨c, hcl, hcc, hfr, hfk⟩ := PartT_cells HP.out j hlt'
     obtain ⟨A2, c2, rfl, hl2, hC2⟩ := k57_openF (hfk (Nat.le_refl _))
     have hC2 := Kd.F_now hC2
     obtain ⟨X, hX⟩ : ∃ X, l1[j] = X := ⟨_, rfl⟩
     have hrl := HE1.out l1[j] (List.getElem_mem hlt')
     rw [hX] at hcc hl2 hC2 hrl
     have hx0 := hcc 0 _ rfl
     have hx1 := hcc 1 _ rfl
     have hx2 := hcc 2 _ rfl
     have hf2 := hfr 2
     have hs3 : k57.sz = 3 := rfl
     rw [hs3] at hx0 hx1 hx2 hf2
     rw [Nat.add_zero] at hx0
     have HCC := Aside0.mk hcc
     have HGC := Aside0.mk hgc
     have HX := Lib.hid hX
     have HCL := Aside0.mk (fun (W : World) (hW : Below wr.heap.size wr W) => bytes_Clone.calls A2 c2 X.f2 X.f2 W (Kd.C_below hC2 hW) hl2 (by unfold bytes_Clone.f; rw [if_pos hrl]))
     obtain ⟨m, hm⟩ : ∃ m, X.f2.length = m := ⟨_, rfl⟩
     rw [hm] at hx2 HCL
     obtain ⟨z0, hz0⟩ : ∃ z, X.f0 = z := ⟨_, rfl⟩
     obtain ⟨z1, hz1⟩ : ∃ z, X.f1 = z := ⟨_, rfl⟩
     rw [hz0] at hx0
     rw [hz1] at hx1
     have HM := Lib.hid hm
     have HZ0 := Lib.hid hz0
     have HZ1 := Lib.hid hz1
     have x0 : wr.cell? ⟨w.heap.size, 1, none⟩ = some (.slice (some ⟨g, 0, none⟩) n1 cD) := blk_cell HXA.out 1
     have hne : g ≠ w.heap.size := by omega
     have HAL := Aside0.mk (below_alloc (Below.refl wr.heap.size wr) (.cells #[.bool z0, .int .i64 z1, .slice A2 m c2] 57))
     have HNEW := Aside0.mk (World.alloc_heap_new wr (.cells #[.bool z0, .int .i64 z1, .slice A2 m c2] 57))
     clear hm hz0 hz1 hcc hfr hfk hl2 hC2 hrl hcl e hgc hs3 hX
     go_wp2_with fail
     have hgb : (wr.alloc (.cells #[.bool z0, .int .i64 z1, .slice A2 m c2] 57)).heap.size = wr.heap.size + 1 := by simp
     obtain ⟨W3, hW3⟩ : ∃ W, wr.alloc (.cells #[.bool z0, .int .i64 z1, .slice A2 m c2] 57) = W := ⟨_, rfl⟩
     rw [hW3] at HAL HNEW hgb ⊢
     obtain ⟨gb, hgbe⟩ : ∃ b, wr.heap.size = b := ⟨_, rfl⟩
     have y0 : W3.cell? ⟨w.heap.size, 1, none⟩ = some (.slice (some ⟨g, 0, none⟩) n1 cD) := blk_cell (blk_below HXA.out HAL.out) 1
     have y1 : W3.cell? ⟨gb, 2, none⟩ = some (.slice A2 m c2) := by rw [← hgbe]; exact blk_cell HNEW.out 2
     have hgl : g < W3.heap.size := by omega
     have hf3 : W3.frozen? ⟨g, j * 3 + 2, none⟩ = false := (HAL.out.frozen (p := ⟨g, j * 3 + 2, none⟩) hg2).trans hf2
     have hne2 : g ≠ gb := by omega
     have HG2 := Aside0.mk hg2
     have HGB := Aside0.mk hgbe
     have hx3 : W3.cell? ⟨g, j * 3 + 2, none⟩ = some (.slice A2 m c2) := (HAL.out.cell (p := ⟨g, j * 3 + 2, none⟩) hg2).trans hx2
     have HG3 := Aside0.mk hgb
     rw [hgbe]
     clear hW3 hx0 hx1 hx2 x0 hgb hgbe hg2 hf2 HNEW
     go_region_held3 (fun w' => w'.cell? ⟨w.heap.size, 1, none⟩ = some (.slice (some ⟨g, 0, none⟩) n1 cD) ∧ w'.cell? ⟨gb, 2, none⟩ = some (.slice A2 m c2)) (first | exact ⟨pw_cell_below HBC.out y0, pw_cell_below HBC.out y1⟩ | exact ⟨y0, y1⟩ | go_keep) ((go_at_call 46; refine (HCL.out _ (HAL.out.trans ((below_drew1 (Below.refl W3.heap.size W3)).mono HAL.out.size))).mono ?_; rintro e wC ⟨vC, rfl, hoC, hbC⟩; obtain ⟨AC', cC', rfl⟩ := Kd.R_slice hoC; have HOC := Aside0.mk hoC; have HBC := Aside0.mk ((below_drew1 (Below.refl W3.heap.size W3)).trans (hbC.mono (below_size (below_drew1 (Below.refl _ _))))); have zf : wC.frozen? ⟨g, j * 3 + 2, none⟩ = false := (HBC.out.frozen (p := ⟨g, j * 3 + 2, none⟩) hgl).trans hf3; have zy : wC.cell? ⟨g, j * 3 + 2, none⟩ = some (.slice A2 m c2) := pw_cell_below HBC.out hx3; have zx : wC.heap[g]? = some (.cells cgs 57 (0, 0)) := blk_below (blk_below HGC.out HAL.out) HBC.out; clear hoC hbC))
     have HBW := Aside0.mk (HAL.out.trans (HBC.out.mono HAL.out.size))
     have hM : k57.M wC bb2 (fun q => wr.heap.size ≤ q) l1[j] ([.bool z0, .int .i64 z1, .slice A2 m c2].take 2 ++ [.slice AC' X.f2.length cC'] ++ [.bool z0, .int .i64 z1, .slice A2 m c2].drop 3) := by
      have hq := k57_mkM wC bb2 (fun q => wr.heap.size ≤ q) X (Kd.R_lower (Kd.R_mono (Kd.R_bound HOC.out) (fun q hq => by have h2 : W3.heap.size ≤ q := hq.2.1; have := HG3.out; omega)) (show bb2 ≤ W3.drew.heap.size from by show bb2 ≤ W3.heap.size; have := HG2.out; have := HG3.out; omega))
      rw [HZ0.out, HZ1.out] at hq
      rw [HX.out]
      exact hq
     have HPN := Aside0.mk (PartT_store (W1 := wC) (c := [.bool z0, .int .i64 z1, .slice A2 m c2]) (seg := [.slice AC' X.f2.length cC']) (j := 2) (okp := fun q => wr.heap.size ≤ q) HP.out hlt' (by omega) rfl (fun i u hu => HCC.out i u (by rw [HZ0.out, HZ1.out, HM.out]; exact hu)) HBW.out (show 2 + 1 ≤ 3 by omega) hM (fun _ h => h) (fun q hq => Nat.le_trans HNL.out hq))
     have HSN := Aside0.mk (Kd.S_far (p := ⟨g, j * 3 + 2, none⟩) (Kd.S_below HS.out HBW.out) (fun q hq he => hq.2 (by rw [he]; rfl)) (.slice AC' X.f2.length cC'))
     have HXAN := Aside0.mk (blk_far (blk_below HXA.out HBW.out) (p := ⟨g, j * 3 + 2, none⟩) (by show w.heap.size ≠ g; omega) (.slice AC' X.f2.length cC'))
     have HXBN := Aside0.mk (blk_far (blk_below HXB.out HBW.out) (p := ⟨g, j * 3 + 2, none⟩) (by show w.heap.size + 1 ≠ g; omega) (.slice AC' X.f2.length cC'))
     have HBN := Aside0.mk ((HB.out.trans (HBW.out.mono HB.out.size)).setCell (p := ⟨g, j * 3 + 2, none⟩) (by show w.heap.size ≤ g; omega) (.slice AC' X.f2.length cC'))
     have HNN : Aside0 (N1 ≤ (wC.setCell ⟨g, j * 3 + 2, none⟩ (.slice AC' X.f2.length cC')).heap.size) := ⟨by have := HBW.out.size; have := HNL.out; simp; omega⟩
     go_wp2_with fail
     exact ⟨⟨j + 1, by omega, by go_num, HPN, HSN, HXAN, HXBN, HBN, HNN⟩, by simp [intOf]; omega⟩
    ·
     obtain rfl : j = n1 := by omega
     have x0 : wr.cell? ⟨w.heap.size, 0, none⟩ = some (.slice AC k cC) := blk_cell HXA.out 0
     have x1 : wr.cell? ⟨w.heap.size, 1, none⟩ = some (.slice AD j cD) := blk_cell HXA.out 1
     have u0 : wr.cell? ⟨w.heap.size + 1, 0, none⟩ = some (.slice none 0 0) := blk_cell HXB.out 0
     have u1 : wr.cell? ⟨w.heap.size + 1, 1, none⟩ = some (.slice none 0 0) := blk_cell HXB.out 1
     have uf : ∀ i, wr.frozen? ⟨w.heap.size + 1, i, none⟩ = false := fun i => by simp [World.frozen?, HXB.out]
     have hfin := PartT_end (okE := fun q => N1 ≤ q) (d := k57) (e := 57) (W := wr) (base := bb2) (N := w.heap.size) (v := .slice AD j cD) (xs := l1) (by rw [HN1.out]; exact HP.out)
     have HXB1 := Aside0.mk (blk_put HXB.out 0 (.slice AC k cC) rfl)
     have HF1 := Aside0.mk (Kd.S_lower (Kd.S_set (Kd.S_set hfin HXB.out (by decide) 0 (.slice AC k cC)) HXB1.out (by decide) 1 (.slice AD j cD)) (show w.heap.size ≤ bb2 by omega))
     have HF0 := Aside0.mk (Kd.S_lower (Kd.S_set (Kd.S_set HS.out HXB.out (by decide) 0 (.slice AC k cC)) HXB1.out (by decide) 1 (.slice AD j cD)) (show w.heap.size ≤ bb1 by omega))
     have HBF := Aside0.mk ((HB.out.setCell (p := ⟨w.heap.size + 1, 0, none⟩) (by show w.heap.size ≤ w.heap.size + 1; omega) (.slice AC k cC)).setCell (p := ⟨w.heap.size + 1, 1, none⟩) (by show w.heap.size ≤ w.heap.size + 1; omega) (.slice AD j cD))
     have HXF := Aside0.mk (blk_put HXB1.out 1 (.slice AD j cD) rfl)
     clear hfin HXB1
     go_wp2_with fail
     exact bodyPost_ret (results_cell_row rfl _ _ (w.heap.size + 1) 58 #[.slice AC k cC, .slice AD j cD] (0, 0) _ rfl HXF.out Try.underlying58 rfl (by kernel_rfl)) rfl ⟨_, _, fun q => q < N1 ∧ some q ≠ (Value.slice AD j cD).ownBlock, rfl, HF0.out, Kd.S_mono HF1.out (fun q hq h => hq.elim (fun h2 => by have := h.1; omega) (fun h2 => h.2 h2)), HBF.out⟩
end Go.Proofs.Ytkdaeleolomdkaa.D
