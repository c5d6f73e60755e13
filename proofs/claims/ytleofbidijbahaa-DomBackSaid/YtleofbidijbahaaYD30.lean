import Derived.Test.YtleofbidijbahaaYD0
import Derived.Test.YtleofbidijbahaaYD11
import Derived.Test.YtleofbidijbahaaYD19
import Derived.Test.YtleofbidijbahaaYD24
namespace Go.Proofs.Ytleofbidijbahaa.D
open Go.RowKit Go.Proofs.YtleofbidijbahaaW.PrintWords Go.Proofs.YtleofbidijbahaaW.PrintLast Go.Proofs.YtleofbidijbahaaW.PrintMore
attribute [local go_sem] max2_int min2_int max_two min_two max_three min_three max_four min_four   -- for this text's walks alone
set_option linter.unusedVariables false
set_option linter.unusedSimpArgs false
abbrev InI (x : Int) : Prop := -9223372036854775808 ≤ x ∧ x ≤ 9223372036854775807
structure GoneAt (W : World) (b mo sz : Nat) (gone : List Int) : Prop where
 at_ : W.heap[b]? = some (.cells #[.map (some mo)] 112 (0, 0))
 set : KeySetI W mo sz gone
theorem KeySetI.blk {W : World} {b n : Nat} {seen : List Int} (h : KeySetI W b n seen) : b < W.heap.size := by
 obtain ⟨D, ho, _⟩ := h
 rcases Nat.lt_or_ge b W.heap.size with h1 | h1
 ·
  exact h1
 ·
  exfalso
  have := ho
  unfold World.ownsMap at this
  simp [Array.getElem?_eq_none h1] at this
set_option maxRecDepth 100000 in
set_option maxHeartbeats 2000000 in
theorem away1_is (x : S63) (A5 : Option Addr) (c5 n5 : Nat) (A6 : Option Addr) (c6 n6 : Nat) (b mo sz : Nat) (gone : List Int) (W : World) (hg : GoneAt W b mo sz gone) (hr : InI x.f0) :
  Calls Try.prog 92 #[.agg #[.int .i64 x.f0, .int .i64 x.f1, .string x.f2, .string x.f3, .string x.f4, .slice A5 n5 c5, .slice A6 n6 c6], .pointer (some ⟨b, 0, none⟩)] W fun e w' => e = .returned (.bool (gone.contains x.f0)) ∧ Below W.heap.size W w' := by
 obtain ⟨v, hv⟩ : ∃ v, gone.contains x.f0 = v := ⟨_, rfl⟩
 obtain ⟨W1, hW1⟩ : ∃ W', W.alloc (.cells #[.int .i64 x.f0, .int .i64 x.f1, .string x.f2, .string x.f3, .string x.f4, .slice A5 n5 c5, .slice A6 n6 c6] 63) = W' := ⟨_, rfl⟩
 have hb1 : Below W.heap.size W W1 := by rw [← hW1]; exact (Below.refl _ _).alloc (Nat.le_refl _) _
 have hx1 : NBox W1 W.heap.size x A5 c5 n5 A6 c6 n6 := by rw [← hW1]; exact World.alloc_heap_new W _
 have z0 : W1.cell? ⟨W.heap.size, 0, none⟩ = some (.int .i64 x.f0) := blk_cell hx1 0
 have y0 : W1.cell? ⟨b, 0, none⟩ = some (.map (some mo)) := blk_cell ((hb1.block _ (blk_lt hg.at_)).trans hg.at_) 0
 have hlook := (hg.set.below hb1).look hr
 rw [hv] at hlook ⊢
 have HB1 := Aside0.mk hb1
 clear hb1 hx1 hg hv
 go_enter Try.func92, Try.ntmps92
 go_wp2_with fail
 go_ret
 exact ⟨rfl, HB1.out⟩
def idxG (gone : List Int) : List S63 → Int
 | [] => -1
 | x :: xs => if gone.contains x.f0 = true then 0 else if idxG gone xs < 0 then -1 else idxG gone xs + 1
theorem GoneAt.below {W W' : World} {b mo sz : Nat} {gone : List Int} (h : GoneAt W b mo sz gone) (hb : Below W.heap.size W W') : GoneAt W' b mo sz gone := ⟨(hb.block _ (blk_lt h.at_)).trans h.at_, h.set.below hb⟩
theorem GoneAt.grown {W W' : World} {b mo sz : Nat} {gone : List Int} (h : GoneAt W b mo sz gone) {row : Option Nat} (hg : W.grownBy W' row) (h1 : some b ≠ row) (h2 : some mo ≠ row) : GoneAt W' b mo sz gone := ⟨blk_grown h.at_ hg h1, h.set.kept hg h2⟩
theorem idxG_lo (gone : List Int) : ∀ l : List S63, idxG gone l = -1 ∨ 0 ≤ idxG gone l
 | [] => .inl rfl
 | x :: xs => by
  unfold idxG
  split
  ·
   exact .inr (Int.le_refl _)
  ·
   split
   ·
    exact .inl rfl
   ·
    exact .inr (by omega)
theorem idxG_spec (gone : List Int) : ∀ l : List S63, (idxG gone l = -1 ∧ ∀ x ∈ l, gone.contains x.f0 = false) ∨ ∃ k : Nat, idxG gone l = k ∧ k < l.length ∧ (∀ x, l[k]? = some x → gone.contains x.f0 = true) ∧ ∀ x ∈ l.take k, gone.contains x.f0 = false
 | [] => .inl ⟨rfl, fun x hx => by simp at hx⟩
 | x :: xs => by
  unfold idxG
  by_cases h : gone.contains x.f0 = true
  ·
   exact .inr ⟨0, by rw [if_pos h]; rfl, by simp, fun y hy => by simp at hy; rw [← hy]; exact h, by simp⟩
  ·
   rw [if_neg h]
   have h' : gone.contains x.f0 = false := by simpa using h
   rcases idxG_spec gone xs with ⟨h1, h2⟩ | ⟨k, h1, h2, h3, h4⟩
   ·
    refine .inl ⟨by rw [h1]; rfl, fun y hy => ?_⟩
    rcases List.mem_cons.1 hy with rfl | hy
    ·
     exact h'
    ·
     exact h2 y hy
   ·
    refine .inr ⟨k + 1, by rw [h1, if_neg (by omega)]; omega, by simp; omega, fun y hy => h3 y (by simpa using hy), fun y hy => ?_⟩
    rw [List.take_succ_cons] at hy
    rcases List.mem_cons.1 hy with rfl | hy
    ·
     exact h'
    ·
     exact h4 y hy
set_option maxRecDepth 100000 in
set_option maxHeartbeats 2000000 in
theorem idx2_is (A : Option Addr) (c n : Nat) (xs : List S63) (gone : List Int) (b mo sz : Nat) (w : World) (hR : Kd.C k63 w A n xs) (hn : xs.length = n) (hg : GoneAt w b mo sz gone) (hid : ∀ x ∈ xs, InI x.f0) :
  Calls Try.prog 112 #[.slice A n c, .func (.func 92) #[] #[.pointer (some ⟨b, 0, none⟩)]] w fun e w' => e = .returned (.int .i64 (idxG gone xs)) ∧ Below w.heap.size w w' := by
 have HR := Aside0.mk hR
 have HG := Aside0.mk hg
 have HID := Aside0.mk hid
 have hm : n ≤ 9223372036854775807 := hR.2.1
 have HN := Lib.hid hn
 obtain ⟨R, hRR⟩ : ∃ R, idxG gone xs = R := ⟨_, rfl⟩
 rw [hRR]
 have HRR := Lib.hid hRR
 clear hR hn hg hid hRR
 go_enter Try.func112, Try.ntmps112
 go_wp2_with fail
 go_loopw [8] (fun i wr => ∃ k : Nat, k ≤ n ∧ i = .int .i64 k ∧ Aside0 (R = if idxG gone (xs.drop k) < 0 then -1 else k + idxG gone (xs.drop k)) ∧ Aside0 (Below w.heap.size w wr)) (fun i _ => n - (intOf i).toNat)
 case atStart =>
  refine ⟨0, by omega, rfl, ⟨?_⟩, ⟨Below.refl _ _⟩⟩
  rw [List.drop_zero, ← HRR.out]
  rcases idxG_lo gone xs with h | h
  ·
   rw [h]; rfl
  ·
   rw [if_neg (by omega)]; omega
 case round =>
  obtain ⟨k, hk, rfl, HZ, HB⟩ := hrel
  by_cases hlt : k < n
  ·
   have hkl : k < xs.length := by have := HN.out; omega
   obtain ⟨ad, A5, c5, A6, c6, rfl, e0, e1, e2, e3, e4, e5, e6, hl5, hC5, hl6, hC6⟩ := at_T63 (Kd.C_below HR.out HB.out) (k : Int) (by omega) (by omega)
   have hx : rd_T63 xs (k : Int) = xs[k] := by unfold rd_T63; rw [Int.toNat_natCast, List.getD_eq_getElem?_getD, List.getElem?_eq_getElem hkl, Option.getD_some]
   simp only [Int.toNat_natCast, hx] at e0 e1 e2 e3 e4 e5 e6
   have hz := HZ.out
   rw [List.drop_eq_getElem_cons hkl, idxG] at hz
   have hin := HID.out xs[k] (List.getElem_mem hkl)
   obtain ⟨x, hxe⟩ : ∃ x, xs[k] = x := ⟨_, rfl⟩
   rw [hxe] at e0 e1 e2 e3 e4 e5 e6 hz hin
   obtain ⟨m5, hm5⟩ : ∃ m, x.f5.length = m := ⟨_, rfl⟩
   obtain ⟨m6, hm6⟩ : ∃ m, x.f6.length = m := ⟨_, rfl⟩
   rw [hm5] at e5
   rw [hm6] at e6
   have d9 : decide ((k : Int) < (n : Int)) = true := decide_eq_true (by omega)
   have HC := Aside0.mk (away1_is x A5 c5 m5 A6 c6 m6 b mo sz gone wr (HG.out.below HB.out) hin)
   clear hx hxe HZ hkl hl5 hC5 hl6 hC6 hm5 hm6 hin
   cases hc : gone.contains x.f0 with
   | true =>
    rw [hc] at hz HC
    have HV : Aside0 (R = k) := ⟨by rw [hz]; simp⟩
    clear hz hc
    go_wp2_with (go_at_call 92; refine HC.out.mono ?_; rintro e w2 ⟨rfl, hb2⟩)
    go_ret
    exact ⟨by rw [HV.out]; rfl, HB.out.trans (hb2.mono HB.out.size)⟩
   | false =>
    rw [hc] at hz HC
    have HV : Aside0 (R = if idxG gone (xs.drop (k + 1)) < 0 then -1 else ((k + 1 : Nat) : Int) + idxG gone (xs.drop (k + 1))) := ⟨by
     rw [hz]
     simp only [Bool.false_eq_true, if_false]
     by_cases h0 : idxG gone (xs.drop (k + 1)) < 0
     ·
      simp [if_pos h0]
     ·
      simp only [if_neg h0]; rw [if_neg (by omega)]; omega⟩
    clear hz hc
    go_wp2_with (go_at_call 92; refine HC.out.mono ?_; rintro e w2 ⟨rfl, hb2⟩)
    go_round
    case rel => exact ⟨k + 1, by omega, by go_num, HV, ⟨HB.out.trans (hb2.mono HB.out.size)⟩⟩
    case measure => simp [intOf]; omega
  ·
   obtain rfl : k = n := by omega
   have d9 : decide ((k : Int) < (k : Int)) = false := decide_eq_false (by omega)
   have HV : Aside0 (R = -1) := ⟨by rw [HZ.out, List.drop_eq_nil_of_le (by have := HN.out; omega)]; rfl⟩
   go_wp2_with fail
   go_ret
   exact ⟨by rw [HV.out]; rfl, HB.out⟩
section
variable {α : Type} {d : Kd α} {f : Nat → Nat} {e base : Nat} {ok : Nat → Prop} {w : World} {v : Value} {ps : List (α × Nat)}
theorem tag_at (h : (Kd.tag f d).R e w base ok v ps) : d.R e w base ok v (ps.map Prod.fst) := by
 obtain ⟨h0, inner, ho, hr⟩ := h
 refine ⟨h0, inner, by rw [List.length_map]; exact ho, by rw [List.length_map]; exact hr.1, fun j p hj => ?_⟩
 rw [List.getElem?_map] at hj
 cases hq : ps[j]? with
 | none => rw [hq] at hj; cases hj
 | some q =>
  rw [hq] at hj
  injection hj with hj
  subst hj
  exact d.M_mono (fun _ hk => hk.1) (hr.2 j q hq)
theorem S_of_tags (h : (Kd.tag f d).R e w base ok v ps) (hnd : (ps.map Prod.snd).Nodup) : Kd.S d e w base ok v (ps.map Prod.fst) := by
 obtain ⟨h0, inner, ho, hr⟩ := h
 refine ⟨fun k => (ps.map Prod.snd).idxOf (f k), h0, inner, by rw [List.length_zipIdx, List.length_map]; exact ho, by rw [List.length_zipIdx, List.length_map]; exact hr.1, fun j p hj => ?_⟩
 rw [List.getElem?_zipIdx, List.getElem?_map, Nat.zero_add] at hj
 cases hq : ps[j]? with
 | none => rw [hq] at hj; cases hj
 | some q =>
  rw [hq] at hj
  injection hj with hj
  subst hj
  refine d.M_mono (fun k hk => ⟨hk.1, ?_⟩) (hr.2 j q hq)
  obtain ⟨hjl, hjq⟩ := List.getElem?_eq_some_iff.1 hq
  show (ps.map Prod.snd).idxOf (f k) = j
  rw [hk.2, ← hjq]
  have := List.Nodup.idxOf_getElem hnd j (by rw [List.length_map]; exact hjl)
  rwa [List.getElem_map] at this
end
theorem filt_in {gone : List Int} {l : List (S63 × Nat)} {q : S63 × Nat} (h : gone.contains q.1.f0 = true) : (l ++ [q]).filter (fun q => !gone.contains q.1.f0) = l.filter (fun q => !gone.contains q.1.f0) := by
 rw [List.filter_append, List.filter_cons_of_neg (by rw [h]; decide), List.filter_nil, List.append_nil]
theorem filt_out {gone : List Int} {l : List (S63 × Nat)} {q : S63 × Nat} (h : gone.contains q.1.f0 = false) : (l ++ [q]).filter (fun q => !gone.contains q.1.f0) = l.filter (fun q => !gone.contains q.1.f0) ++ [q] := by
 rw [List.filter_append, List.filter_cons_of_pos (by rw [h]; decide), List.filter_nil]
theorem filter_not {gone : List Int} {l : List (S63 × Nat)} (h : ∀ y ∈ l, gone.contains y.1.f0 = false) : l.filter (fun q => !gone.contains q.1.f0) = l := List.filter_eq_self.2 (fun y hy => by rw [h y hy]; rfl)
set_option maxRecDepth 100000 in
set_option maxHeartbeats 8000000 in
theorem del2_is (f : Nat → Nat) (v : Value) (ps : List (S63 × Nat)) (gone : List Int) (base : Nat) (ok : Nat → Prop) (b mo sz : Nat) (w : World) (hR : (Kd.tag f k63).R 63 w base ok v ps) (hg : GoneAt w b mo sz gone) (hbn : some b ≠ v.ownBlock) (hmn : some mo ≠ v.ownBlock) (hid : ∀ q ∈ ps, InI q.1.f0) :
  Calls Try.prog 91 #[v, .func (.func 92) #[] #[.pointer (some ⟨b, 0, none⟩)]] w fun e w' => ∃ v', e = .returned v' ∧ v'.ownBlock = v.ownBlock ∧ (Kd.tag f k63).R 63 w' base ok v' (ps.filter (fun q => !gone.contains q.1.f0)) ∧ w.grownBy w' v.ownBlock := by
 obtain ⟨A, c, rfl⟩ := Kd.R_slice hR
 obtain ⟨n, hn⟩ : ∃ n, ps.length = n := ⟨_, rfl⟩
 rw [hn] at hR hbn hmn ⊢
 have hrd := Kd.R_reads' (tag_at hR)
 have hnc := hrd.2.1
 have hnm : n ≤ 9223372036854775807 := by have := hrd.2.2.2.1; have := hrd.1; rw [List.length_map] at this; omega
 have hC : Kd.C k63 w A n (ps.map Prod.fst) := by have := hrd.2.2; rwa [List.length_map, hn] at this
 have HCALL := Aside0.mk (idx2_is A c n (ps.map Prod.fst) gone b mo sz w hC (by rw [List.length_map]; exact hn) hg (fun x hx => by obtain ⟨q, hq, rfl⟩ := List.mem_map.1 hx; exact hid q hq))
 have HN := Lib.hid hn
 have HG0 := Aside0.mk hg
 have HBN := Aside0.mk hbn
 have HMN := Aside0.mk hmn
 have HR := Aside0.mk hR
 have HID := Aside0.mk hid
 clear hrd hR hg hn hbn hmn hC hid
 go_enter Try.func91, Try.ntmps91
 rcases idxG_spec gone (ps.map Prod.fst) with ⟨h1, h2⟩ | ⟨k, h1, h2, h3, h4⟩
 ·
  rw [h1] at HCALL
  have HF := Aside0.mk (filter_not (gone := gone) (l := ps) (fun y hy => h2 _ (List.mem_map_of_mem hy)))
  clear h1 h2
  go_wp2_with (go_at_call 112; refine HCALL.out.mono ?_; rintro e w2 ⟨rfl, hb2⟩)
  go_ret
  exact ⟨_, rfl, rfl, by rw [HF.out]; exact Kd.R_below HR.out hb2, grown_of_below hb2 _⟩
 ·
  rw [h1] at HCALL
  rw [List.length_map] at h2
  have hkn : k < n := by have := HN.out; omega
  have hf0 : ps.take k = (ps.take (k + 1)).filter (fun q => !gone.contains q.1.f0) := by
   have := h3 ps[k].1 (by rw [List.getElem?_map, List.getElem?_eq_getElem h2]; rfl)
   rw [List.take_succ_eq_append_getElem h2, filt_in this, filter_not (gone := gone) (l := ps.take k) (fun y hy => h4 _ (by rw [← List.map_take]; exact List.mem_map_of_mem hy))]
  have HF0 := Aside0.mk hf0
  have dk : ((k : Int) == -1) = false := beq_eq_false_iff_ne.2 (by omega)
  clear h1 h2 h3 h4 hf0
  obtain ⟨g, cap, e, hg1, hg2, -⟩ := Kd.R_form HR.out (by have := HN.out; omega)
  obtain ⟨rfl, -, rfl⟩ : A = some ⟨g, 0, none⟩ ∧ n = ps.length ∧ c = cap := by simpa using e
  clear e
  go_wp2_with (go_at_call 112; refine HCALL.out.mono ?_; rintro e w2 ⟨rfl, hb2⟩)
  go_loopw [5, 6, 7] (fun v5 v6 _ wr => ∃ (i j : Nat) (ys : List (S63 × Nat)), i < j ∧ j ≤ n ∧ v5 = .int .i64 i ∧ v6 = .int .i64 j ∧ Aside0 (ys.length = n ∧ ys.take i = (ps.take j).filter (fun q => !gone.contains q.1.f0) ∧ ys.drop j = ps.drop j) ∧ Aside0 ((Kd.tag f k63).R 63 wr base ok (.slice (some ⟨g, 0, none⟩) n c) ys) ∧ Aside0 (w.grownBy wr (some g))) (fun _ v6 _ _ => n - (intOf v6).toNat)
  case atStart => exact ⟨k, k + 1, ps, by omega, by omega, rfl, by go_num, ⟨HN.out, HF0.out, rfl⟩, ⟨Kd.R_below HR.out hb2⟩, ⟨grown_of_below hb2 _⟩⟩
  case round =>
   obtain ⟨i, j, ys, hij, hj, rfl, rfl, HY, HRR, HG⟩ := hrel
   obtain ⟨hyl, hyt, hyd⟩ := HY.out
   by_cases hlt : j < n
   ·
    have hjy : j < ys.length := by omega
    have hjx : j < ps.length := by have := HN.out; omega
    have hxy : ys[j] = ps[j] := by
     have h1 := congrArg (fun l => l[0]?) hyd
     simpa [List.getElem?_drop, List.getElem?_eq_getElem hjy, List.getElem?_eq_getElem hjx] using h1
    obtain ⟨cc, hcl, hM, hcc, hcf⟩ := Kd.R_elem HRR.out (z63, 0) (j : Int) (by omega) (by omega)
    have hx : ys.getD (j : Int).toNat (z63, 0) = ps[j] := by rw [Int.toNat_natCast, List.getD_eq_getElem?_getD, List.getElem?_eq_getElem hjy, Option.getD_some, hxy]
    rw [hx] at hM
    rw [Int.toNat_natCast] at hcc
    have htk := List.take_succ_eq_append_getElem hjx
    have hdr : ys.drop (j + 1) = ps.drop (j + 1) := by
     have h1 := congrArg (fun l => l.drop 1) hyd
     simpa [List.drop_drop] using h1
    have hin := HID.out ps[j] (List.getElem_mem hjx)
    obtain ⟨q, hqe⟩ : ∃ q, ps[j] = q := ⟨_, rfl⟩
    rw [hqe] at hM htk hin
    obtain ⟨v5, v6, rfl, h5, h6⟩ := k63_openM (show k63.M wr base (fun k => (ok k ∧ k ≠ g) ∧ f k = q.2) q.1 cc from hM)
    obtain ⟨A5, c5, rfl⟩ := Kd.R_slice h5
    obtain ⟨A6, c6, rfl⟩ := Kd.R_slice h6
    have e0 := hcc 0 _ rfl
    have e1 := hcc 1 _ rfl
    have e2 := hcc 2 _ rfl
    have e3 := hcc 3 _ rfl
    have e4 := hcc 4 _ rfl
    have e5 := hcc 5 _ rfl
    have e6 := hcc 6 _ rfl
    rw [show (Kd.tag f k63).sz = 7 from rfl] at e0 e1 e2 e3 e4 e5 e6
    rw [Nat.add_zero] at e0
    have HTK := Aside0.mk htk
    have HDR := Aside0.mk hdr
    have HYT := Aside0.mk hyt
    have HYL := Aside0.mk hyl
    have HM := Aside0.mk hM
    obtain ⟨m5, hm5⟩ : ∃ m, q.1.f5.length = m := ⟨_, rfl⟩
    obtain ⟨m6, hm6⟩ : ∃ m, q.1.f6.length = m := ⟨_, rfl⟩
    rw [hm5] at e5 HM
    rw [hm6] at e6 HM
    obtain ⟨x, hxe⟩ : ∃ x, q.1 = x := ⟨_, rfl⟩
    rw [hxe] at e0 e1 e2 e3 e4 HM hin
    have HXE := Lib.hid hxe
    obtain ⟨W4, hW4⟩ : ∃ W, wr.alloc (.cells #[.int .i64 x.f0, .int .i64 x.f1, .string x.f2, .string x.f3, .string x.f4, .slice A5 m5 c5, .slice A6 m6 c6] 63) = W := ⟨_, rfl⟩
    obtain ⟨N, hNN⟩ : ∃ N, wr.heap.size = N := ⟨_, rfl⟩
    have hal := below_alloc (Below.refl wr.heap.size wr) (.cells #[.int .i64 x.f0, .int .i64 x.f1, .string x.f2, .string x.f3, .string x.f4, .slice A5 m5 c5, .slice A6 m6 c6] 63)
    rw [hW4] at hal
    have hx4 : NBox W4 N x A5 c5 m5 A6 c6 m6 := by rw [← hW4, ← hNN]; exact World.alloc_heap_new wr _
    have z0 : W4.cell? ⟨N, 0, none⟩ = some (.int .i64 x.f0) := blk_cell hx4 0
    have z1 : W4.cell? ⟨N, 1, none⟩ = some (.int .i64 x.f1) := blk_cell hx4 1
    have z2 : W4.cell? ⟨N, 2, none⟩ = some (.string x.f2) := blk_cell hx4 2
    have z3 : W4.cell? ⟨N, 3, none⟩ = some (.string x.f3) := blk_cell hx4 3
    have z4 : W4.cell? ⟨N, 4, none⟩ = some (.string x.f4) := blk_cell hx4 4
    have z5 : W4.cell? ⟨N, 5, none⟩ = some (.slice A5 m5 c5) := blk_cell hx4 5
    have z6 : W4.cell? ⟨N, 6, none⟩ = some (.slice A6 m6 c6) := blk_cell hx4 6
    have HAL := Aside0.mk hal
    have HX4 := Aside0.mk hx4
    have HC := Aside0.mk (away1_is x A5 c5 m5 A6 c6 m6 b mo sz gone W4 (((HG0.out.grown HG.out HBN.out HMN.out)).below hal) hin)
    have d19 : decide ((j : Int) < (n : Int)) = true := decide_eq_true (by omega)
    clear hqe hx hxy hjy hjx htk hdr hyt hyd hyl HY hcc hcf hcl hM h5 h6 hm5 hm6 hxe hal hx4 hin
    cases hcn : gone.contains x.f0 with
    | true =>
     have HF : Aside0 ((ps.take (j + 1)).filter (fun q => !gone.contains q.1.f0) = (ps.take j).filter (fun q => !gone.contains q.1.f0)) := ⟨by rw [HTK.out]; exact filt_in (by rw [HXE.out]; exact hcn)⟩
     rw [hcn] at HC
     clear hcn
     go_wp2_with (go_at_call 92; refine HC.out.mono ?_; rintro e w5 ⟨rfl, hb5⟩)
     have hb6 := HAL.out.trans (hb5.mono HAL.out.size)
     exact ⟨⟨i, j + 1, ys, by omega, by omega, rfl, by go_num, ⟨HYL.out, by rw [HF.out]; exact HYT.out, HDR.out⟩, ⟨Kd.R_below HRR.out hb6⟩, ⟨World.grownBy.trans HG.out (grown_of_below hb6 _)⟩⟩, by simp only [intOf]; omega⟩
    | false =>
     have HF : Aside0 ((ps.take (j + 1)).filter (fun q => !gone.contains q.1.f0) = (ps.take j).filter (fun q => !gone.contains q.1.f0) ++ [q]) := ⟨by rw [HTK.out]; exact filt_out (by rw [HXE.out]; exact hcn)⟩
     rw [hcn] at HC
     clear hcn
     have hb6 := HAL.out
     obtain ⟨ci, hcli, hMi, hcci, -⟩ := Kd.R_elem HRR.out (z63, 0) (i : Int) (by omega) (by omega)
     obtain ⟨v5', v6', rfl, -, -⟩ := k63_openM (show k63.M wr base (fun k => (ok k ∧ k ≠ g) ∧ f k = (ys.getD (i : Int).toNat (z63, 0)).2) (ys.getD (i : Int).toNat (z63, 0)).1 ci from hMi)
     rw [Int.toNat_natCast, show (Kd.tag f k63).sz = 7 from rfl] at hcci
     have i0 := pw_cell_below hb6 (hcci 0 _ rfl)
     have i1 := pw_cell_below hb6 (hcci 1 _ rfl)
     have i2 := pw_cell_below hb6 (hcci 2 _ rfl)
     have i3 := pw_cell_below hb6 (hcci 3 _ rfl)
     have i4 := pw_cell_below hb6 (hcci 4 _ rfl)
     have i5 := pw_cell_below hb6 (hcci 5 _ rfl)
     have i6 := pw_cell_below hb6 (hcci 6 _ rfl)
     rw [Nat.add_zero] at i0
     have hfz : ∀ t, W4.frozen? ⟨g, i * 7 + t, none⟩ = false := fun t => by
      obtain ⟨cs, hcs⟩ := Kd.R_typed (Kd.R_below HRR.out hb6) g (by simp [Value.ownBlock])
      exact blk_frozen hcs _
     have HFZ := Aside0.mk hfz
     have HGT : Aside0 (∃ cs, W4.heap[g]? = some (.cells cs 63 (0, 0))) := ⟨Kd.R_typed (Kd.R_below HRR.out hb6) g (by simp [Value.ownBlock])⟩
     clear hcli hMi hcci hfz hb6
     go_wp2_with (go_at_call 92; refine HC.out.mono ?_; rintro e w5 ⟨rfl, hb5⟩; have z0 := pw_cell_below hb5 z0; have z1 := pw_cell_below hb5 z1; have z2 := pw_cell_below hb5 z2; have z3 := pw_cell_below hb5 z3; have z4 := pw_cell_below hb5 z4; have z5 := pw_cell_below hb5 z5; have z6 := pw_cell_below hb5 z6; have i0 := pw_cell_below hb5 i0; have i1 := pw_cell_below hb5 i1; have i2 := pw_cell_below hb5 i2; have i3 := pw_cell_below hb5 i3; have i4 := pw_cell_below hb5 i4; have i5 := pw_cell_below hb5 i5; have i6 := pw_cell_below hb5 i6; obtain ⟨cs, hcs⟩ := HGT.out; have hcs5 := (hb5.block _ (blk_lt hcs)).trans hcs; have k0 : w5.frozen? ⟨g, i * 7, none⟩ = false := blk_frozen hcs5 _; have k1 : w5.frozen? ⟨g, i * 7 + 1, none⟩ = false := blk_frozen hcs5 _; have k2 : w5.frozen? ⟨g, i * 7 + 2, none⟩ = false := blk_frozen hcs5 _; have k3 : w5.frozen? ⟨g, i * 7 + 3, none⟩ = false := blk_frozen hcs5 _; have k4 : w5.frozen? ⟨g, i * 7 + 4, none⟩ = false := blk_frozen hcs5 _; have k5 : w5.frozen? ⟨g, i * 7 + 5, none⟩ = false := blk_frozen hcs5 _; have k6 : w5.frozen? ⟨g, i * 7 + 6, none⟩ = false := blk_frozen hcs5 _; have HB5 := Aside0.mk hb5; clear hcs5 hcs hb5)
     have hb6 := HAL.out.trans (HB5.out.mono HAL.out.size)
     have hR5 := Kd.R_below HRR.out hb6
     obtain ⟨cq, hcl, -, hcc5, -⟩ := Kd.R_elem hR5 (z63, 0) (i : Int) (by omega) (by omega)
     obtain ⟨hs1, hs2⟩ := Kd.R_seg hR5 (i : Int) (by omega) (by omega) (c := cq) (seg := [.int .i64 x.f0, .int .i64 x.f1, .string x.f2, .string x.f3, .string x.f4, .slice A5 m5 c5, .slice A6 m6 c6]) (j := 0) (x' := q) (okp := fun k => ok k ∧ k ≠ g) hcl hcc5 (Nat.le_refl 7) (by
      rw [List.take_zero, List.nil_append, List.drop_eq_nil_of_le (by rw [hcl]; exact Nat.le_refl 7), List.append_nil]
      exact Kd.M_step HM.out (fun k _ hlt => hb6.block k hlt)) (fun k hk => hk)
     rw [Int.toNat_natCast] at hs1 hs2
     refine ⟨⟨i + 1, j + 1, ys.set i q, by omega, by omega, by go_num, by go_num, ⟨by rw [List.length_set]; exact HYL.out, ?_, ?_⟩, ⟨hs1⟩, ⟨World.grownBy.trans (World.grownBy.trans HG.out (grown_of_below hb6 _)) hs2⟩⟩, by simp only [intOf]; omega⟩
     ·
      rw [HF.out, List.take_set, ← HYT.out, List.take_succ_eq_append_getElem (by have := HYL.out; omega), List.set_append_right _ _ (by simp; omega)]
      have hmin : (ys.take i).length = i := by rw [List.length_take]; have := HYL.out; omega
      rw [hmin]
      simp
     ·
      rw [List.drop_set_of_lt (by omega)]
      exact HDR.out
   ·
    obtain rfl : j = n := by omega
    have d19 : decide ((j : Int) < (j : Int)) = false := decide_eq_false (by omega)
    obtain ⟨inner, ho⟩ := Kd.R_own HRR.out
    have HBK : Aside0 (∃ cs, wr.heap[g]? = some (.cells cs 63 (0, 0)) ∧ j * 7 ≤ cs.size ∧ j ≤ c ∧ cs.size = c * 7) := ⟨by
     rcases ho.2 with ⟨h, _⟩ | ⟨g', cap, cur, h, _, hh, h1, _, h2, _⟩
     ·
      cases h
     ·
      injection h with ha _ hc
      injection ha with ha
      injection ha with ha
      subst ha hc
      rw [show (Kd.tag f k63).sz = 7 from rfl] at h2
      rw [hyl] at h1
      exact ⟨cur, hh, by rw [h2]; exact Nat.mul_le_mul_right 7 h1, h1, h2⟩⟩
    obtain ⟨zs, hzs⟩ : ∃ zs, (Builtin.zeroCells (Value.agg #[.int .i64 0, .int .i64 0, .string ⟨#[]⟩, .string ⟨#[]⟩, .string ⟨#[]⟩, .slice none 0 0, .slice none 0 0]).cells (j - i)).toList = zs := ⟨_, rfl⟩
    have hzl : zs.length = (j - i) * 7 := by rw [← hzs, Array.length_toList, size_zeroCells]; rfl
    have hcl : ∀ ty, (Builtin.clear_ #[26] ty #[.slice (some ⟨g, i * 7, none⟩) (j - i) (c - i)]).run Try.prog wr = .ok (.tuple #[]) (wr.setCells g (i * 7) zs) := fun ty => by
     obtain ⟨cs, hcs, hc7, -, -⟩ := HBK.out
     rw [← hzs]
     refine run_clear_cellsN wr 26 63 ty (.agg #[.int .i64 0, .int .i64 0, .string ⟨#[]⟩, .string ⟨#[]⟩, .string ⟨#[]⟩, .slice none 0 0, .slice none 0 0]) Try.underlying26 (fun W => by kernel_rfl) g (i * 7) (j - i) (c - i) (by omega) (fun t ht => ?_) (fun t _ => blk_frozen hcs _) (fun v hv => ?_)
     ·
      have ht2 : t < (j - i) * 7 := ht
      have hlt2 : i * 7 + t < cs.size := by omega
      rw [blk_cell hcs, Array.getElem?_eq_getElem hlt2]
      rfl
     ·
      rw [Array.mem_toList_iff] at hv
      unfold Builtin.zeroCells at hv
      obtain ⟨t, -, rfl⟩ := Array.mem_map.1 hv
      have hm : t % 7 < 7 := Nat.mod_lt _ (by decide)
      have key : ∀ m, m < 7 → ((Value.agg #[.int .i64 0, .int .i64 0, .string ⟨#[]⟩, .string ⟨#[]⟩, .string ⟨#[]⟩, .slice none 0 0, .slice none 0 0]).cells[m]!).oneCell' = true := by decide
      exact key _ hm
    have hfit : i * 7 + zs.length ≤ c * 7 := by
     obtain ⟨cs, hcs, hc7, hjc, -⟩ := HBK.out
     rw [hzl]
     omega
    have HOWN := Aside0.mk (R_tail (seg := zs) (o := i * 7) (Kd.R_take (m := i) HRR.out (by omega)) (Nat.le_refl _) hfit)
    have HGR := Aside0.mk (World.grownBy.trans HG.out (grown_cells wr g (i * 7) zs))
    have HF : Aside0 (ys.take i = ps.filter (fun q => !gone.contains q.1.f0)) := ⟨by rw [hyt, List.take_of_length_le (by have := HN.out; omega)]⟩
    have hcne : ¬ c = i := by
     obtain ⟨cs, hcs, hc7, hjc, -⟩ := HBK.out
     omega
    clear hyt hyd hyl HY HF0 HR ho hzs hzl hfit
    go_wp2_with fail
    go_ret
    exact ⟨_, rfl, rfl, by rw [← HF.out]; exact HOWN.out, HGR.out⟩
end Go.Proofs.Ytleofbidijbahaa.D
