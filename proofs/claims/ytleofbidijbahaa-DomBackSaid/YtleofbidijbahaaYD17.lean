import Derived.Test.YtleofbidijbahaaYD0
import Derived.Test.YtleofbidijbahaaYD5
import Derived.Test.YtleofbidijbahaaYD11
import Derived.Test.YtleofbidijbahaaYD19
namespace Go.Proofs.Ytleofbidijbahaa.D
open Go.RowKit Go.Proofs.YtleofbidijbahaaW.PrintWords Go.Proofs.YtleofbidijbahaaW.PrintLast Go.Proofs.YtleofbidijbahaaW.PrintMore
attribute [local go_sem] max2_int min2_int max_two min_two max_three min_three max_four min_four   -- for this text's walks alone
set_option linter.unusedVariables false
set_option linter.unusedSimpArgs false
theorem off1_is (k id : Int) (b : Nat) (q : Addr) (W : World) (hb : W.cell? ⟨b, 0, none⟩ = some (.pointer (some q))) (hq : W.cell? q = some (.int .i64 id)) :
  Calls Try.prog 109 #[.int .i64 k, .pointer (some ⟨b, 0, none⟩)] W fun e w' => e = .returned (.bool (k == id)) ∧ W = w' := by
 obtain ⟨v, hv⟩ : ∃ v, (k == id) = v := ⟨_, rfl⟩
 go_enter Try.func109, Try.ntmps109
 go_wp2_with fail
 go_ret
 exact ⟨by rw [hv]; rfl, rfl⟩
set_option maxRecDepth 100000 in
set_option maxHeartbeats 2000000 in
theorem idx1_is (A : Option Addr) (c n : Nat) (xs : List Int) (id : Int) (b : Nat) (q : Addr) (w : World) (hR : Kd.C (Kd.int .i64) w A n xs) (hn : xs.length = n) (hb : w.cell? ⟨b, 0, none⟩ = some (.pointer (some q))) (hq : w.cell? q = some (.int .i64 id)) :
  Calls Try.prog 97 #[.slice A n c, .func (.func 109) #[] #[.pointer (some ⟨b, 0, none⟩)]] w fun e w' => e = .returned (.int .i64 (idxI xs id)) ∧ w = w' := by
 have HR := Aside0.mk hR
 have hm : n ≤ 9223372036854775807 := hR.2.1
 have HN := Lib.hid hn
 have HCALL := Aside0.mk (fun k => off1_is k id b q w hb hq)
 obtain ⟨R, hRR⟩ : ∃ R, idxI xs id = R := ⟨_, rfl⟩
 rw [hRR]
 have HRR := Lib.hid hRR
 clear hR hn hb hq hRR
 go_enter Try.func97, Try.ntmps97
 go_wp2_with fail
 go_loop [8] (fun i => ∃ k : Nat, k ≤ n ∧ i = .int .i64 k ∧ Aside0 (R = if idxI (xs.drop k) id < 0 then -1 else k + idxI (xs.drop k) id)) (fun i => n - (intOf i).toNat)
 case atStart =>
  refine ⟨0, by omega, rfl, ⟨?_⟩⟩
  rw [List.drop_zero, ← HRR.out]
  rcases idxI_lo xs id with h | ⟨_, h⟩
  ·
   split <;> omega
  ·
   rw [h]; rfl
 case round =>
  obtain ⟨k, hk, rfl, HZ⟩ := hrel
  by_cases hlt : k < n
  ·
   obtain ⟨ad, rfl, hcell⟩ := Kd.at_int HR.out (k : Int) (by omega) (by omega)
   have hkl : k < xs.length := by have := HN.out; omega
   have hx : rd xs (k : Int) = xs[k] := by unfold rd; rw [Int.toNat_natCast, List.getD_eq_getElem?_getD, List.getElem?_eq_getElem hkl, Option.getD_some]
   rw [hx, Int.toNat_natCast] at hcell
   have hz := HZ.out
   rw [List.drop_eq_getElem_cons hkl, idxI] at hz
   obtain ⟨x, hxe⟩ : ∃ x, xs[k] = x := ⟨_, rfl⟩
   rw [hxe] at hcell hz
   have d9 : decide ((k : Int) < (n : Int)) = true := decide_eq_true (by omega)
   have HZ2 := Aside0.mk hz
   have HC := HCALL.out x
   have HC := Aside0.mk HC
   clear hx hxe hz HZ hkl
   by_cases he : x = id
   ·
    rw [show (x == id) = true from beq_iff_eq.2 he] at HC
    have HV : Aside0 (R = k) := ⟨by have he2 : id = x := he.symm; rw [HZ2.out]; simp only [if_pos he2]; simp⟩
    clear he HZ2
    go_wp2_with (go_at_call 109; refine HC.out.mono ?_; rintro e w2 ⟨rfl, rfl⟩)
    go_ret
    exact ⟨by rw [HV.out]; rfl, rfl⟩
   ·
    rw [show (x == id) = false from beq_eq_false_iff_ne.2 he] at HC
    have HV : Aside0 (R = if idxI (xs.drop (k + 1)) id < 0 then -1 else ((k + 1 : Nat) : Int) + idxI (xs.drop (k + 1)) id) := ⟨by
     have he2 : ¬ id = x := fun h => he h.symm
     rw [HZ2.out]
     simp only [if_neg he2]
     by_cases h0 : idxI (xs.drop (k + 1)) id < 0
     ·
      simp [if_pos h0]
     ·
      simp only [if_neg h0]; rw [if_neg (by omega)]; omega⟩
    clear he HZ2
    go_wp2_with (go_at_call 109; refine HC.out.mono ?_; rintro e w2 ⟨rfl, rfl⟩)
    go_round
    case rel => exact ⟨k + 1, by omega, by go_num, HV⟩
    case measure => simp [intOf]; omega
  ·
   obtain rfl : k = n := by omega
   have d9 : decide ((k : Int) < (k : Int)) = false := decide_eq_false (by omega)
   have HV : Aside0 (R = -1) := ⟨by rw [HZ.out, List.drop_eq_nil_of_le (by have := HN.out; omega)]; rfl⟩
   go_wp2_with fail
   go_ret
   exact ⟨by rw [HV.out]; rfl, rfl⟩
theorem filter_ne {x id : Int} {l : List Int} (h : ∀ y ∈ l, y ≠ id) : l.filter (fun y => y != id) = l := List.filter_eq_self.2 (fun y hy => bne_iff_ne.2 (h y hy))
theorem idxI_spec : ∀ (l : List Int) (a : Int), (idxI l a = -1 ∧ ∀ x ∈ l, x ≠ a) ∨ ∃ k : Nat, idxI l a = k ∧ k < l.length ∧ l[k]? = some a ∧ ∀ x ∈ l.take k, x ≠ a
 | [], _ => .inl ⟨rfl, fun x hx => by simp at hx⟩
 | x :: xs, a => by
  rw [idxI]
  by_cases h : a = x
  ·
   exact .inr ⟨0, by simp [if_pos h], by simp, by simp [h], by simp⟩
  ·
   simp only [if_neg h]
   rcases idxI_spec xs a with ⟨h1, h2⟩ | ⟨k, h1, h2, h3, h4⟩
   ·
    refine .inl ⟨by rw [h1]; rfl, fun y hy => ?_⟩
    rcases List.mem_cons.1 hy with rfl | hy
    ·
     exact fun e => h e.symm
    ·
     exact h2 y hy
   ·
    refine .inr ⟨k + 1, by rw [h1, if_neg (by omega)]; omega, by simp; omega, by simpa using h3, fun y hy => ?_⟩
    rw [List.take_succ_cons] at hy
    rcases List.mem_cons.1 hy with rfl | hy
    ·
     exact fun e => h e.symm
    ·
     exact h4 y hy
set_option maxRecDepth 100000 in
set_option maxHeartbeats 4000000 in
theorem del1_is (v : Value) (xs : List Int) (id : Int) (base : Nat) (ok : Nat → Prop) (b : Nat) (q : Addr) (w : World) (hR : Kd.R (Kd.int .i64) 3 w base ok v xs) (hb : w.cell? ⟨b, 0, none⟩ = some (.pointer (some q))) (hq : w.cell? q = some (.int .i64 id)) (hbn : some b ≠ v.ownBlock) (hqn : some q.block ≠ v.ownBlock) :
  Calls Try.prog 108 #[v, .func (.func 109) #[] #[.pointer (some ⟨b, 0, none⟩)]] w fun e w' => ∃ v', e = .returned v' ∧ v'.ownBlock = v.ownBlock ∧ Kd.R (Kd.int .i64) 3 w' base ok v' (xs.filter (fun x => x != id)) ∧ w.grownBy w' v.ownBlock := by
 obtain ⟨A, c, rfl⟩ := Kd.R_slice hR
 obtain ⟨n, hn⟩ : ∃ n, xs.length = n := ⟨_, rfl⟩
 rw [hn] at hR hbn hqn ⊢
 have hrd := Kd.R_reads' hR
 have hnc := hrd.2.1
 have hnm : n ≤ 9223372036854775807 := by have := hrd.2.2.2.1; omega
 have HCALL := Aside0.mk (idx1_is A c n xs id b q w (by have := hrd.2.2; rwa [hn] at this) hn hb hq)
 have HN := Lib.hid hn
 have HB := Aside0.mk hb
 have HQ := Aside0.mk hq
 have HBN := Aside0.mk hbn
 have HQN := Aside0.mk hqn
 have HR := Aside0.mk hR
 clear hrd hR hb hq hn hbn hqn
 go_enter Try.func108, Try.ntmps108
 rcases idxI_spec xs id with ⟨h1, h2⟩ | ⟨k, h1, h2, h3, h4⟩
 ·
  rw [h1] at HCALL
  have HF := Aside0.mk (filter_ne (x := 0) h2)
  clear h1 h2
  go_wp2_with (go_at_call 97; refine HCALL.out.mono ?_; rintro e w2 ⟨rfl, rfl⟩)
  go_ret
  exact ⟨_, rfl, rfl, by rw [HF.out]; exact HR.out, World.grownBy.refl _ _⟩
 ·
  rw [h1] at HCALL
  have hkn : k < n := by have := HN.out; omega
  have hf0 : xs.take k = (xs.take (k + 1)).filter (fun x => x != id) := by
   rw [List.take_succ_eq_append_getElem h2, List.filter_append, filter_ne (x := 0) h4]
   have : xs[k] = id := by rw [List.getElem?_eq_getElem h2] at h3; injection h3
   simp [this]
  have HF0 := Aside0.mk hf0
  have dk : ((k : Int) == -1) = false := beq_eq_false_iff_ne.2 (by omega)
  clear h1 h2 h3 h4 hf0
  obtain ⟨g, cap, e, hg1, hg2, -⟩ := Kd.R_form HR.out (by have := HN.out; omega)
  obtain ⟨rfl, -, rfl⟩ : A = some ⟨g, 0, none⟩ ∧ n = xs.length ∧ c = cap := by simpa using e
  clear e
  go_wp2_with (go_at_call 97; refine HCALL.out.mono ?_; rintro e w2 ⟨rfl, rfl⟩)
  go_loopw [5, 6, 7] (fun v5 v6 _ wr => ∃ (i j : Nat) (ys : List Int), i < j ∧ j ≤ n ∧ v5 = .int .i64 i ∧ v6 = .int .i64 j ∧ Aside0 (ys.length = n ∧ ys.take i = (xs.take j).filter (fun x => x != id) ∧ ys.drop j = xs.drop j) ∧ Aside0 (Kd.R (Kd.int .i64) 3 wr base ok (.slice (some ⟨g, 0, none⟩) n c) ys) ∧ Aside0 (w.grownBy wr (some g))) (fun _ v6 _ _ => n - (intOf v6).toNat)
  case atStart => exact ⟨k, k + 1, xs, by omega, by omega, rfl, by go_num, ⟨HN.out, HF0.out, rfl⟩, HR, ⟨World.grownBy.refl _ _⟩⟩
  case round =>
   obtain ⟨i, j, ys, hij, hj, rfl, rfl, HY, HRR, HG⟩ := hrel
   obtain ⟨hyl, hyt, hyd⟩ := HY.out
   have HB2 := Aside0.mk (cell_grown HG.out HB.out HBN.out)
   have HQ2 := Aside0.mk (cell_grown HG.out HQ.out HQN.out)
   by_cases hlt : j < n
   ·
    have hjy : j < ys.length := by omega
    have hjx : j < xs.length := by have := HN.out; omega
    have hxy : ys[j] = xs[j] := by
     have h1 := congrArg (fun l => l[0]?) hyd
     simpa [List.getElem?_drop, List.getElem?_eq_getElem hjy, List.getElem?_eq_getElem hjx] using h1
    have hcj := (Kd.R_celln (0 : Int) HRR.out (j : Int) (by omega) (by omega)).1
    obtain ⟨hci, hfi⟩ := Kd.R_celln (0 : Int) HRR.out (i : Int) (by omega) (by omega)
    have hx : rdOf (0 : Int) ys (j : Int) = xs[j] := by unfold rdOf; rw [Int.toNat_natCast, List.getD_eq_getElem?_getD, List.getElem?_eq_getElem hjy, Option.getD_some, hxy]
    rw [hx, Int.toNat_natCast] at hcj
    rw [Int.toNat_natCast] at hci hfi
    have htk := List.take_succ_eq_append_getElem hjx
    have hdr : ys.drop (j + 1) = xs.drop (j + 1) := by
     have h1 := congrArg (fun l => l.drop 1) hyd
     simpa [List.drop_drop] using h1
    obtain ⟨x, hxe⟩ : ∃ x, xs[j] = x := ⟨_, rfl⟩
    rw [hxe] at hcj htk
    obtain ⟨hp1, hp2⟩ := Kd.R_putg HRR.out (i : Int) x
    rw [Int.toNat_natCast] at hp1 hp2
    have HP1 := Aside0.mk hp1
    have HP2 := Aside0.mk (World.grownBy.trans HG.out hp2)
    have HC := Aside0.mk (off1_is x id b q wr HB2.out HQ2.out)
    have d19 : decide ((j : Int) < (n : Int)) = true := decide_eq_true (by omega)
    have HTK := Aside0.mk htk
    have HDR := Aside0.mk hdr
    have HYT := Aside0.mk hyt
    have HYL := Aside0.mk hyl
    clear hxe hx hxy hjy hjx hp1 hp2 htk hdr hyt hyd hyl HY
    by_cases he : x = id
    ·
     have hb2 : (x == id) = true := beq_iff_eq.2 he
     have HF : Aside0 ((xs.take (j + 1)).filter (fun x => x != id) = (xs.take j).filter (fun x => x != id)) := ⟨by rw [HTK.out, List.filter_append]; simp [he]⟩
     rw [hb2] at HC
     clear he hb2
     go_wp2_with (go_at_call 109; refine HC.out.mono ?_; rintro e w2 ⟨rfl, rfl⟩)
     exact ⟨⟨i, j + 1, ys, by omega, by omega, rfl, by go_num, ⟨HYL.out, by rw [HF.out]; exact HYT.out, HDR.out⟩, HRR, HG⟩, by simp only [intOf]; omega⟩
    ·
     have hb2 : (x == id) = false := beq_eq_false_iff_ne.2 he
     have HF : Aside0 ((xs.take (j + 1)).filter (fun x => x != id) = (xs.take j).filter (fun x => x != id) ++ [x]) := ⟨by rw [HTK.out, List.filter_append]; simp [he]⟩
     rw [hb2] at HC
     clear he hb2
     go_wp2_with (go_at_call 109; refine HC.out.mono ?_; rintro e w2 ⟨rfl, rfl⟩)
     refine ⟨⟨i + 1, j + 1, ys.set i x, by omega, by omega, by go_num, by go_num, ⟨by rw [List.length_set]; exact HYL.out, ?_, ?_⟩, HP1, HP2⟩, by simp only [intOf]; omega⟩
     ·
      rw [HF.out, List.take_set, ← HYT.out, List.take_succ_eq_append_getElem (by have := HYL.out; omega), List.set_append_right _ _ (by simp; omega)]
      have hmin : (ys.take i).length = i := by rw [List.length_take]; have := HYL.out; omega
      rw [hmin]
      simp
     ·
      rw [List.drop_set_of_lt (by omega)]
      exact HDR.out
   ·
    obtain rfl : j = n := by omega
    have d19 : decide ((j : Int) < (j : Int)) = false := decide_eq_false (by omega)
    have hall : ∀ t, t < j → (wr.cell? ⟨g, t, none⟩).isSome = true ∧ wr.frozen? ⟨g, t, none⟩ = false := fun t ht => by
     obtain ⟨h1, h2⟩ := Kd.R_celln (0 : Int) HRR.out (t : Int) (by omega) (by omega)
     rw [Int.toNat_natCast] at h1 h2
     exact ⟨by rw [h1]; rfl, h2⟩
    have hcl : ∀ ty, (Builtin.clear_ #[61] ty #[.slice (some ⟨g, i, none⟩) (j - i) (c - i)]).run Try.prog wr = .ok (.tuple #[]) (wr.setCells g i (List.replicate (j - i) (.int .i64 0))) :=
     fun ty => Lib.run_clear_slice wr 61 3 ty (.int .i64 0) Try.underlying61 (fun w => by kernel_rfl) rfl rfl g i _ _ (by omega) (fun t ht => (hall (i + t) (by omega)).1) (fun t ht => (hall (i + t) (by omega)).2)
    have HOWN := Aside0.mk (R_tail (seg := List.replicate (j - i) (.int .i64 0)) (o := i) (Kd.R_take (m := i) HRR.out (by omega)) (Nat.le_of_eq (Nat.mul_one i)) (by rw [List.length_replicate]; show i + (j - i) ≤ c * 1; omega))
    have HGR := Aside0.mk (World.grownBy.trans HG.out (grown_cells wr g i (List.replicate (j - i) (.int .i64 0))))
    have HF : Aside0 (ys.take i = xs.filter (fun x => x != id)) := ⟨by rw [hyt, List.take_of_length_le (by have := HN.out; omega)]⟩
    have hcne : ¬ c = i := by omega
    clear hall hyt hyd hyl HY HF0 HR
    go_wp2_with fail
    go_ret
    exact ⟨_, rfl, rfl, by rw [← HF.out]; exact HOWN.out, HGR.out⟩
def offF (ns : List S63) (i : Nat) : List S63 :=
 let ns1 := match nodeOf ns (rd_T63 ns (i : Int)).f1 with
  | none => ns
  | some y => ns.set (lowP ns (rd_T63 ns (i : Int)).f1) { y with f6 := y.f6.filter (fun k => k != (rd_T63 ns (i : Int)).f0) }
 ns1.set i { rd_T63 ns1 (i : Int) with f1 := 0 }
theorem nodeOf_some {ns : List S63} {id : Int} {y : S63} (h : nodeOf ns id = some y) : lowP ns id < ns.length ∧ rd_T63 ns (lowP ns id : Int) = y ∧ y.f0 = id := by
 unfold nodeOf at h
 split at h
 ·
  rename_i hb
  simp only [Bool.and_eq_true, decide_eq_true_eq] at hb
  injection h with h
  exact ⟨hb.1, h, by rw [← h]; exact hb.2⟩
 ·
  cases h
theorem findV_own {ns : List S63} {id : Int} {y : S63} (h : nodeOf ns id = some y) (b : Nat) : findV (some ⟨b, 0, none⟩) ns id = .pointer (some ⟨b, lowP ns id * 7, none⟩) := by
 have h2 := h
 unfold nodeOf at h2
 split at h2
 ·
  rename_i hb
  unfold findV
  rw [if_pos hb]
  simp [add_plain]
 ·
  cases h2
theorem nil_cells7 (w : World) (b o : Nat) (u : Value) : w.setCells b o [u] = w.setCell ⟨b, o, none⟩ u := rfl
set_option maxRecDepth 100000 in
set_option maxHeartbeats 4000000 in
theorem off_is (base g : Nat) (ok : Nat → Prop) (b n cap i : Nat) (ns : List S63) (r nx : Int) (w : World) (hD : Disp w base g ok (.slice (some ⟨b, 0, none⟩) n cap) ns r nx) (hi : i < n) :
  Calls Try.prog 89 #[.pointer (some ⟨g, 0, none⟩), .pointer (some ⟨b, i * 7, none⟩)] w fun e w' => e = .returned (.tuple #[]) ∧ Disp w' base g ok (.slice (some ⟨b, 0, none⟩) n cap) (offF ns i) r nx ∧ Chg w w' ok := by
 have hlen : ns.length = n := hD.sees.len
 obtain ⟨x, hx⟩ : ∃ x, rd_T63 ns (i : Int) = x := ⟨_, rfl⟩
 obtain ⟨W1, hW1⟩ : ∃ W, w.alloc (.cells #[.pointer (some ⟨b, i * 7, none⟩)] 90) = W := ⟨_, rfl⟩
 have hb1 : Below w.heap.size w W1 := by rw [← hW1]; exact (Below.refl _ _).alloc (Nat.le_refl _) _
 have hx1 : W1.heap[w.heap.size]? = some (.cells #[.pointer (some ⟨b, i * 7, none⟩)] 90 (0, 0)) := by rw [← hW1]; exact World.alloc_heap_new w _
 have hD1 := hD.bound.below hb1
 obtain ⟨oki, A5, c5, A6, c6, hH, h5, h6, hoki, hfr, e0, e1, -⟩ := hD1.elem i hi x hx
 have HFIND := Aside0.mk (hD1.sees.find x.f1)
 have HD1 := Aside0.mk hD1
 have HX1 := Aside0.mk hx1
 have HB1 := Aside0.mk hb1
 have HLEN := Lib.hid hlen
 have HX := Lib.hid hx
 have y0 : W1.cell? ⟨w.heap.size, 0, none⟩ = some (.pointer (some ⟨b, i * 7, none⟩)) := blk_cell hx1 0
 have HGB := Aside0.mk hD.gbase
 have HNOK := Aside0.mk hD.away
 clear hb1 hx1 hD1 hH h5 h6 hoki hfr e0 hlen hx hD
 go_enter Try.func89, Try.ntmps89
 go_wp2_with fail
 refine HFIND.out.mono ?_
 rintro e w2 ⟨rfl, hb2⟩
 have hD2 := HD1.out.below hb2
 have hX2 := (hb2.block _ (blk_lt HX1.out)).trans HX1.out
 have HC2 := Aside0.mk (Chg.of_below (HB1.out.trans (hb2.mono HB1.out.size)) ok)
 clear hb2 HFIND e1
 cases hno : nodeOf ns x.f1 with
 | none =>
  rw [findV_none hno]
  obtain ⟨oki, A5, c5, A6, c6, hH, h5, h6, hoki, hfr, e0, e1, -⟩ := hD2.elem i hi x HX.out
  have z0 : w2.cell? ⟨w.heap.size, 0, none⟩ = some (.pointer (some ⟨b, i * 7, none⟩)) := blk_cell hX2 0
  have hf1 := hfr 1
  have HD3 := Aside0.mk (hD2.put (j := 1) (seg := [.int .i64 0]) (x' := { x with f1 := 0 }) rfl hH hi (by decide) (k63_mkM w2 base oki { x with f1 := 0 } h5 h6) (fun _ h => h) HX.out rfl)
  have HOFF : Aside0 (offF ns i = ns.set i { x with f1 := 0 }) := ⟨by unfold offF; simp only [HX.out, hno]⟩
  have HOKB := Aside0.mk hD2.okb
  clear hH h5 h6 hoki hfr e0 hD2 hX2 hno
  go_wp2_with fail
  refine bodyPost_end (results_none rfl _ _ _) rfl ⟨rfl, ?_, ?_⟩
  ·
   rw [HOFF.out]
   exact HD3.out.mono (fun _ hk => hk.1) HNOK.out
  ·
   exact HC2.out.grown (grown_cell w2 b (i * 7 + 1) _) (fun k hk => by injection hk with hk; subst hk; exact .inl HOKB.out.1)
 | some y =>
  obtain ⟨hL, hy, hyid⟩ := nodeOf_some hno
  rw [findV_own hno]
  obtain ⟨L, hLe⟩ : ∃ L, lowP ns x.f1 = L := ⟨_, rfl⟩
  rw [hLe] at hL hy ⊢
  have hLn : L < n := by have := HLEN.out; omega
  obtain ⟨okx, -, -, -, -, -, -, -, -, -, e0, -⟩ := hD2.elem i hi x HX.out
  obtain ⟨oki, A5, c5, A6, c6, hH, h5, h6, hoki, hfr, -, -, -, -, -, -, f6⟩ := hD2.elem L hLn y hy
  have z0 : w2.cell? ⟨w.heap.size, 0, none⟩ = some (.pointer (some ⟨b, i * 7, none⟩)) := blk_cell hX2 0
  have hNn : some w.heap.size ≠ (Value.slice A6 y.f6.length c6).ownBlock := Kd.R_ne h6 hX2 (by decide)
  have hbn : some b ≠ (Value.slice A6 y.f6.length c6).ownBlock := fun he => (hoki b (h6.1 b he.symm)).2 rfl
  have HDEL := Aside0.mk (del1_is _ y.f6 x.f0 base oki w.heap.size ⟨b, i * 7, none⟩ w2 h6 z0 e0 hNn hbn)
  obtain ⟨m6, hm6⟩ : ∃ m, y.f6.length = m := ⟨_, rfl⟩
  rw [hm6] at f6 HDEL
  have hf6 := hfr 6
  have HH := Aside0.mk hH
  have H5 := Aside0.mk h5
  have H6 := Aside0.mk h6
  have HOKI := Aside0.mk hoki
  have HM6 := Lib.hid hm6
  have HY := Lib.hid hy
  have HNN := Aside0.mk hNn
  have HX2 := Aside0.mk hX2
  have HD2 := Aside0.mk hD2
  have HLE := Lib.hid hLe
  have HNO := Lib.hid hno
  clear hH h5 h6 hoki hfr e0 hD2 hX2 hno hm6 hy hLe hbn hNn
  go_wp2_with fail
  refine HDEL.out.mono ?_
  rintro e w3 ⟨v6, rfl, hv6, h6', hg3⟩
  obtain ⟨A7, c7, rfl⟩ := Kd.R_slice h6'
  obtain ⟨m7, hm7⟩ : ∃ m, (y.f6.filter (fun k => k != x.f0)).length = m := ⟨_, rfl⟩
  rw [hm7] at h6' ⊢
  have HM7 := Lib.hid hm7
  rw [← HM6.out] at hg3
  clear hm7
  have hrow : ∀ k, (Value.slice A6 y.f6.length c6).ownBlock = some k → oki k := fun k hk => H6.out.1 k hk
  have hbb : some b ≠ (Value.slice A6 y.f6.length c6).ownBlock := fun he => (HOKI.out b (hrow b he.symm)).2 rfl
  have hgg : some g ≠ (Value.slice A6 y.f6.length c6).ownBlock := fun he => HD2.out.away (HOKI.out g (hrow g he.symm)).1
  have hH3 := Kd.H_grown HH.out hg3 hrow
  have h53 := Kd.R_over' H5.out (Kd.R_typed H6.out) (by decide) hg3
  have hD4 := HD2.out.put (j := 6) (seg := [.slice A7 m7 c7]) (x' := { y with f6 := y.f6.filter (fun k => k != x.f0) }) (hg3.block g (blk_lt HD2.out.box) hgg) hH3 hLn (Nat.le_refl 7) (k63_mkM w3 base oki { y with f6 := y.f6.filter (fun k => k != x.f0) } h53 h6') (fun _ h => h) HY.out rfl
  have hX4 := blk_far (blk_grown HX2.out hg3 HNN.out) (p := ⟨b, L * 7 + 6, none⟩) (fun he => HNN.out (by
   exfalso
   obtain ⟨cs, hcs⟩ := Kd.S_typed HD2.out.row b (by simp [Value.ownBlock])
   have he2 : w.heap.size = b := he
   rw [← he2, HX2.out] at hcs
   injection hcs with hcs
   injection hcs with _ ht
   cases ht)) (.slice A7 m7 c7)
  obtain ⟨x2, hx2⟩ : ∃ z, rd_T63 (ns.set L { y with f6 := y.f6.filter (fun k => k != x.f0) }) (i : Int) = z := ⟨_, rfl⟩
  have f63 := cell_grown hg3 f6 hbb
  obtain ⟨cs, hcs⟩ := Kd.S_typed HD2.out.row b (by simp [Value.ownBlock])
  have hfz : w3.frozen? ⟨b, L * 7 + 6, none⟩ = false := blk_frozen (blk_grown hcs hg3 hbb) _
  rw [nil_cells7] at hD4
  obtain ⟨W4, hW4⟩ : ∃ W, w3.setCell ⟨b, L * 7 + 6, none⟩ (.slice A7 m7 c7) = W := ⟨_, rfl⟩
  rw [hW4] at hD4 hX4
  have HC4 : Aside0 (Chg w W4 ok) := ⟨by
   rw [← hW4]
   exact (HC2.out.grown hg3 (fun k hk => .inl (HOKI.out k (hrow k hk)).1.1)).grown (grown_cell w3 b (L * 7 + 6) _) (fun k hk => by injection hk with hk; subst hk; exact .inl HD2.out.okb.1)⟩
  obtain ⟨okz, A5', c5', A6', c6', hHz, h5z, h6z, hokz, hfz4, -, e14, -⟩ := hD4.elem i hi x2 hx2
  have hf1 := hfz4 1
  have z0 : W4.cell? ⟨w.heap.size, 0, none⟩ = some (.pointer (some ⟨b, i * 7, none⟩)) := blk_cell hX4 0
  have HD5 := Aside0.mk (hD4.put (j := 1) (seg := [.int .i64 0]) (x' := { x2 with f1 := 0 }) rfl hHz hi (by decide) (k63_mkM W4 base okz { x2 with f1 := 0 } h5z h6z) (fun _ h => h) hx2 rfl)
  have HOFF : Aside0 (offF ns i = (ns.set L { y with f6 := y.f6.filter (fun k => k != x.f0) }).set i { x2 with f1 := 0 }) := ⟨by unfold offF; simp only [HX.out, HNO.out, HLE.out, hx2]⟩
  have HOKB := Aside0.mk hD4.okb
  clear hv6 h6' hg3 hrow hbb hgg hH3 h53 hD4 hX4 hcs hHz h5z h6z hokz hfz4 hx2 HH H5 H6 HOKI HX2 HDEL hf6 f6
  go_wp2_with fail
  refine bodyPost_end (results_none rfl _ _ _) rfl ⟨rfl, ?_, ?_⟩
  ·
   rw [HOFF.out]
   exact HD5.out.mono (fun _ hk => hk.1) HNOK.out
  ·
   exact HC4.out.grown (grown_cell W4 b (i * 7 + 1) _) (fun k hk => by injection hk with hk; subst hk; exact .inl HOKB.out.1)
end Go.Proofs.Ytleofbidijbahaa.D
