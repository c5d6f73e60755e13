import Derived.Test.YtleofbidijbahaaYD0
import Derived.Test.YtleofbidijbahaaYD5
import Derived.Test.YtleofbidijbahaaYD19
import Derived.Test.YtleofbidijbahaaYD22
namespace Go.Proofs.Ytleofbidijbahaa.D
open Go.RowKit Go.Proofs.YtleofbidijbahaaW.PrintWords Go.Proofs.YtleofbidijbahaaW.PrintLast Go.Proofs.YtleofbidijbahaaW.PrintMore
attribute [local go_sem] max2_int min2_int max_two min_two max_three min_three max_four min_four   -- for this text's walks alone
set_option linter.unusedVariables false
set_option linter.unusedSimpArgs false
abbrev patchV (p : S45) : Value := .agg #[.int .i64 p.f0, .int .i64 p.f1, .int .i64 p.f2, .int .i64 p.f3, .string p.f4, .string p.f5, .string p.f6, .string p.f7, .string p.f8]
abbrev PBox (W : World) (b : Nat) (p : S45) : Prop := W.heap[b]? = some (.cells #[.int .i64 p.f0, .int .i64 p.f1, .int .i64 p.f2, .int .i64 p.f3, .string p.f4, .string p.f5, .string p.f6, .string p.f7, .string p.f8] 45 (0, 0))
def setE (x : S63) (name value : ByteArray) : Int × S63 :=
 if lettersB name = false then (31, x) else
 if 128 < value.size then (5, x) else
 if hasA x.f5 name = true then (0, { x with f5 := x.f5.set (lowA x.f5 name) ⟨(rd_T68 x.f5 (lowA x.f5 name : Int)).f0, value⟩ }) else
 if 16 ≤ x.f5.length then (3, x) else (0, { x with f5 := x.f5.take (lowA x.f5 name) ++ ⟨name, value⟩ :: x.f5.drop (lowA x.f5 name) })
theorem lowA_le (l : List S68) (s : ByteArray) : lowA l s ≤ l.length := List.countP_le_length
theorem hasA_lt {l : List S68} {s : ByteArray} (h : hasA l s = true) : lowA l s < l.length := by
 unfold hasA at h
 simp only [Bool.and_eq_true, decide_eq_true_eq] at h
 exact h.1
theorem Disp.same {W : World} {base g : Nat} {ok : Nat → Prop} {v : Value} {ns : List S63} {r nx : Int} {i : Nat} {x : S63} (h : Disp W base g ok v ns r nx) (hi : i < ns.length) (hx : rd_T63 ns (i : Int) = x) : Disp W base g ok v (ns.set i x) r nx := by
 rw [rd_lt hi] at hx
 subst hx
 rw [List.set_getElem_self]
 exact h
set_option maxRecDepth 100000 in
set_option maxHeartbeats 4000000 in
theorem set_is (base g : Nat) (ok : Nat → Prop) (b n cap i : Nat) (ns : List S63) (r nx : Int) (x : S63) (p : S45) (w : World) (hD : Disp w base g ok (.slice (some ⟨b, 0, none⟩) n cap) ns r nx) (hi : i < n) (hx : rd_T63 ns (i : Int) = x) (hs : RisesA x.f5) (hl : x.f5.length ≤ 100000) (hbase : base ≤ w.heap.size) :
  Calls Try.prog 68 #[.pointer (some ⟨b, i * 7, none⟩), patchV p] w fun e w' => e = .returned (.int .i64 (setE x p.f7 p.f8).1) ∧ Disp w' base g (fun k => ok k ∨ (w.heap.size ≤ k ∧ k < w'.heap.size)) (.slice (some ⟨b, 0, none⟩) n cap) (ns.set i (setE x p.f7 p.f8).2) r nx ∧ Chg w w' ok := by
 have hlen : ns.length = n := hD.sees.len
 have hgl : g < w.heap.size := blk_lt hD.box
 obtain ⟨W1, hW1⟩ : ∃ W, w.alloc (.cells #[.int .i64 p.f0, .int .i64 p.f1, .int .i64 p.f2, .int .i64 p.f3, .string p.f4, .string p.f5, .string p.f6, .string p.f7, .string p.f8] 45) = W := ⟨_, rfl⟩
 have hb1 : Below w.heap.size w W1 := by rw [← hW1]; exact (Below.refl _ _).alloc (Nat.le_refl _) _
 have hx1 : PBox W1 w.heap.size p := by rw [← hW1]; exact World.alloc_heap_new w _
 have hD1 := hD.bound.below hb1
 obtain ⟨oki, A5, c5, A6, c6, hH, h5, h6, hoki, hfr, -, -, -, -, -, e5, -⟩ := hD1.elem i hi x hx
 obtain ⟨n5, hn5⟩ : ∃ n5, x.f5.length = n5 := ⟨_, rfl⟩
 rw [hn5] at e5 hl
 have HATTR := Aside0.mk (attr_is b (i * 7) x.f5 A5 c5 n5 p.f7 W1 e5 (by have := (Kd.R_reads' h5).2.2; rwa [hn5] at this) hn5 hl hs)
 have y7 : W1.cell? ⟨w.heap.size, 7, none⟩ = some (.string p.f7) := blk_cell hx1 7
 have HD := Aside0.mk hD
 have HD1 := Aside0.mk hD1
 have HX1 := Aside0.mk hx1
 have HB1 := Aside0.mk hb1
 have HX := Lib.hid hx
 have HN5 := Lib.hid hn5
 have HLEN := Lib.hid hlen
 obtain ⟨R, hR⟩ : ∃ R, setE x p.f7 p.f8 = R := ⟨_, rfl⟩
 rw [hR]
 unfold setE at hR
 have HR := Lib.hid hR
 clear hb1 hx1 hD1 hH h5 h6 hoki hfr hlen hx hD hn5 hR hs
 go_enter Try.func68, Try.ntmps68
 go_wp2_with fail
 refine HATTR.out.mono ?_
 rintro e w2 ⟨rfl, hb2⟩
 have hD2 := HD1.out.below hb2
 have hx2 : PBox w2 w.heap.size p := (hb2.block _ (blk_lt HX1.out)).trans HX1.out
 have HB2 := Aside0.mk (HB1.out.trans (hb2.mono HB1.out.size))
 have y7 : w2.cell? ⟨w.heap.size, 7, none⟩ = some (.string p.f7) := blk_cell hx2 7
 obtain ⟨q, hq⟩ : ∃ q, lettersB p.f7 = q := ⟨_, rfl⟩
 have HLET := Aside0.mk (fun (W : World) => tree_Letters.calls p.f7 q W (by rw [← hq]; rfl))
 have HD2 := Aside0.mk hD2
 have HX2 := Aside0.mk hx2
 have hr := HR.out
 rw [hq, HN5.out] at hr
 have HR2 := Lib.hid hr
 obtain ⟨L, hL⟩ : ∃ L, lowA x.f5 p.f7 = L := ⟨_, rfl⟩
 obtain ⟨hA, hhA⟩ : ∃ hA, hasA x.f5 p.f7 = hA := ⟨_, rfl⟩
 have HLLE : Aside0 (L ≤ n5) := ⟨by rw [← hL, ← HN5.out]; exact lowA_le _ _⟩
 have HLLT : Aside0 (hA = true → L < n5) := ⟨fun h => by rw [← hL, ← HN5.out]; exact hasA_lt (hhA.trans h)⟩
 rw [hL, hhA] at HR2 ⊢
 clear hb2 hD2 hx2 HATTR hr HR HD1 HX1 HB1 hq hL hhA
 go_wp2_with fail
 refine (HLET.out _).mono ?_
 rintro e w3 ⟨rfl, hb3⟩
 have HD3 := Aside0.mk (HD2.out.below hb3)
 have hx3 : PBox w3 w.heap.size p := (hb3.block _ (blk_lt HX2.out)).trans HX2.out
 have HB3 := Aside0.mk (HB2.out.trans (hb3.mono HB2.out.size))
 replace y7 : w3.cell? ⟨w.heap.size, 7, none⟩ = some (.string p.f7) := blk_cell hx3 7
 have y8 : w3.cell? ⟨w.heap.size, 8, none⟩ = some (.string p.f8) := blk_cell hx3 8
 have HX3 := Aside0.mk hx3
 have HERR : Aside0 (Disp w3 base g (fun k => ok k ∨ (w.heap.size ≤ k ∧ k < w3.heap.size)) (.slice (some ⟨b, 0, none⟩) n cap) (ns.set i x) r nx ∧ Chg w w3 ok) := ⟨((HD.out.below HB3.out).mono (fun k hk => .inl hk) (fun hk => by rcases hk with hk | hk; exact HD.out.away hk; have := blk_lt HD.out.box; omega)).same (by have := HLEN.out; omega) HX.out, Chg.of_below HB3.out ok⟩
 clear hb3 HLET hx3 HD2 HX2 HB2
 cases q with
 | false =>
  have HV : Aside0 (R = (31, x)) := ⟨by rw [← HR2.out, if_pos rfl]⟩
  go_wp2_with fail
  go_ret
  exact ⟨by rw [HV.out]; rfl, by rw [HV.out]; exact HERR.out.1, HERR.out.2⟩
 | true =>
  obtain ⟨sz, hsz⟩ : ∃ sz, p.f8.size = sz := ⟨_, rfl⟩
  have HSZ := Lib.hid hsz
  by_cases h128 : 128 < sz
  ·
   have HV : Aside0 (R = (5, x)) := ⟨by rw [← HR2.out, if_neg (by decide), if_pos (by rw [hsz]; exact h128)]⟩
   have d19 : decide ((sz : Int) > 128) = true := decide_eq_true (by omega)
   go_wp2_with fail
   go_ret
   exact ⟨by rw [HV.out]; rfl, by rw [HV.out]; exact HERR.out.1, HERR.out.2⟩
  ·
   have d19 : decide ((sz : Int) > 128) = false := decide_eq_false (by omega)
   have hr := HR2.out
   rw [if_neg (by decide), if_neg (by rw [hsz]; exact h128)] at hr
   have HR3 := Lib.hid hr
   clear hr HR2
   obtain ⟨oki, A5', c5', A6', c6', hH, h5, h6, hoki, hfr, -, -, -, -, -, e5, -⟩ := HD3.out.elem i hi x HX.out
   rw [HN5.out] at e5
   cases hA with
   | true =>
    have hLn := HLLT.out rfl
    have hlx : L < x.f5.length := by rw [HN5.out]; exact hLn
    obtain ⟨b5, cap5, ee, -, -, -⟩ := Kd.R_form h5 (by omega)
    obtain ⟨rfl, -, rfl⟩ : A5' = some ⟨b5, 0, none⟩ ∧ x.f5.length = x.f5.length ∧ c5' = cap5 := by simpa using ee
    obtain ⟨cc, hcl, hM, hcc, hcf⟩ := Kd.R_elem h5 z68 (L : Int) (by omega) (by omega)
    have hM2 := k68_openM hM
    subst hM2
    rw [Int.toNat_natCast] at hcc hcf
    have q1 := hcc 1 _ rfl
    have f1 := hcf 1
    rw [show k68.sz = 2 from rfl] at q1 f1
    obtain ⟨hseg, hsg⟩ := Kd.R_seg h5 (L : Int) (by omega) (by omega) (c := [.string (x.f5.getD (L : Int).toNat z68).f0, .string (x.f5.getD (L : Int).toNat z68).f1]) (seg := [.string p.f8]) (j := 1) (x' := ⟨(rd_T68 x.f5 (L : Int)).f0, p.f8⟩) (okp := fun _ => False) rfl (by rw [Int.toNat_natCast]; exact hcc) (Nat.le_refl 2) (k68_mkM w3 base _ ⟨(rd_T68 x.f5 (L : Int)).f0, p.f8⟩) (fun _ hk => hk.elim)
    rw [Int.toNat_natCast] at hseg hsg
    have hok5 : oki b5 := h5.1 b5 (by simp [Value.ownBlock])
    have h63 := Kd.R_over' h6 (v := .slice (some ⟨b5, 0, none⟩) x.f5.length c5') (Kd.R_typed h5) (by decide) (by simpa [Value.ownBlock] using hsg)
    have hH3 := Kd.H_grown hH hsg (fun k hk => by injection hk with hk; subst hk; exact hok5)
    have hlen5 : (x.f5.set L ⟨(rd_T68 x.f5 (L : Int)).f0, p.f8⟩).length = x.f5.length := List.length_set
    have hD4 := HD3.out.put (j := 0) (seg := []) (x' := { x with f5 := x.f5.set L ⟨(rd_T68 x.f5 (L : Int)).f0, p.f8⟩ }) (hsg.block g (blk_lt HD3.out.box) (fun he => by injection he with he; exact HD3.out.away (he ▸ (hoki b5 hok5).1))) hH3 hi (Nat.zero_le 7) (k63_mkM _ base oki { x with f5 := x.f5.set L ⟨(rd_T68 x.f5 (L : Int)).f0, p.f8⟩ } hseg h63) (fun _ h => h) HX.out rfl
    have HV : Aside0 (R = (0, { x with f5 := x.f5.set L ⟨(rd_T68 x.f5 (L : Int)).f0, p.f8⟩ })) := ⟨by rw [← HR3.out, if_pos rfl]⟩
    have HD4 := Aside0.mk hD4
    have HCH : Aside0 (Chg w (w3.setCell ⟨b5, L * 2 + 1, none⟩ (.string p.f8)) ok) := ⟨(Chg.of_below HB3.out ok).grown hsg (fun k hk => by injection hk with hk; subst hk; exact .inl (hoki b5 hok5).1.1)⟩
    clear hH h5 h6 hoki hfr ee hcl hM hcc hcf hseg hsg hok5 h63 hH3 hlen5 hD4
    go_wp2_with fail
    go_region
    go_wp2_with fail
    go_ret
    refine ⟨by rw [HV.out]; rfl, ?_, ?_⟩
    ·
     rw [HV.out]
     exact ((HD4.out.below (below_drew (Below.refl _ _))).mono (fun k hk => .inl hk.1) (fun hk => by rcases hk with hk | hk; exact HD.out.away hk; have := blk_lt HD.out.box; omega))
    ·
     exact ⟨HCH.out.1, HCH.out.2.1, HCH.out.2.2.1, HCH.out.2.2.2.drew⟩
   | false =>
    have hr := HR3.out
    rw [if_neg (by decide)] at hr
    have HR4 := Lib.hid hr
    clear hr HR3
    by_cases h16 : 16 ≤ n5
    ·
     have HV : Aside0 (R = (3, x)) := ⟨by rw [← HR4.out, if_pos h16]⟩
     have d41 : decide ((n5 : Int) ≥ 16) = true := decide_eq_true (by omega)
     clear hH h5 h6 hoki hfr
     go_wp2_with fail
     go_ret
     exact ⟨by rw [HV.out]; rfl, by rw [HV.out]; exact HERR.out.1, HERR.out.2⟩
    ·
     have d41 : decide ((n5 : Int) ≥ 16) = false := decide_eq_false (by omega)
     have HV : Aside0 (R = (0, { x with f5 := x.f5.take L ++ ⟨p.f7, p.f8⟩ :: x.f5.drop L })) := ⟨by rw [← HR4.out, if_neg h16]⟩
     have hL5 : L ≤ x.f5.length := by have := HLLE.out; have := HN5.out; omega
     have HINS : Aside0 (∀ W, Below w3.heap.size w3 W → W.heap[w3.heap.size]? = some (.cells #[.string p.f7, .string p.f8] 68 (0, 0)) → Calls Try.prog 95 #[.slice A5' n5 c5', .int .i64 L, .slice (some ⟨w3.heap.size, 0, none⟩) 1 1] W fun e w' => ∃ v', e = .returned v' ∧ Kd.R k68 68 w' base (fun k => oki k ∨ (W.heap.size ≤ k ∧ k < w'.heap.size)) v' (x.f5.take L ++ ⟨p.f7, p.f8⟩ :: x.f5.drop L) ∧ W.grownBy w' (Value.slice A5' x.f5.length c5').ownBlock) := ⟨fun W hW hb => by
      have := insA_is (.slice A5' x.f5.length c5') x.f5 L ⟨p.f7, p.f8⟩ w3.heap.size base oki W (Kd.R_below h5 hW) hb (fun he => by have := Kd.R_lt h5 _ he.symm; omega) hL5 (by have := HN5.out; omega) (by have := HB3.out.size; have := hW.size; omega)
      rwa [HN5.out] at this ⊢⟩
     have HH := Aside0.mk hH
     have H5 := Aside0.mk h5
     have H6 := Aside0.mk h6
     have HOKI := Aside0.mk hoki
     have f5 := hfr 5
     have HBT : Aside0 (∃ cs, w3.heap[b]? = some (.cells cs 63 (0, 0))) := ⟨Kd.S_typed HD3.out.row b (by simp [Value.ownBlock])⟩
     have hbn : some b ≠ (Value.slice A5' x.f5.length c5').ownBlock := fun he => (hoki b (h5.1 b he.symm)).2 rfl
     have hpn : some w.heap.size ≠ (Value.slice A5' x.f5.length c5').ownBlock := Kd.R_ne h5 HX3.out (by decide)
     have HBN := Aside0.mk hbn
     have HPN := Aside0.mk hpn
     have HBLT := Aside0.mk (blk_lt HD3.out.box)
     obtain ⟨m5, hm5⟩ : ∃ m, (x.f5.take L ++ (⟨p.f7, p.f8⟩ : S68) :: x.f5.drop L).length = m := ⟨_, rfl⟩
     have HM5 := Lib.hid hm5
     clear HR4 hH h5 h6 hoki hfr hbn hpn hm5
     go_wp2_with fail
     go_upto_region 11 with (fail)
     go_cut [] (fun wx => Disp wx base g (fun k => ok k ∨ (w.heap.size ≤ k ∧ k < wx.heap.size)) (.slice (some ⟨b, 0, none⟩) n cap) (ns.set i R.2) r nx ∧ Chg w wx ok)
     case first =>
      have hle : w.heap.size ≤ w3.heap.size := HB3.out.size
      have hbl : b < w3.heap.size := World.block_lt_of_cell? w3 ⟨b, i * 7 + 5, none⟩ e5
      have hbl2 : b ≠ w3.heap.size := by omega
      go_region_with ((go_at_call 95; refine (HINS.out _ ?s1 ?s2).mono ?_; (case s1 => first | exact below_alloc (below_drew1 (Below.refl _ _)) _ | exact below_alloc (Below.refl _ _) _); (case s2 => exact World.alloc_heap_new _ _); rintro e wC ⟨v', rfl, hRC, hgC⟩; obtain ⟨AC, cC, rfl⟩ := Kd.R_slice hRC; rw [HM5.out] at hRC ⊢; have hgw := World.grownBy.trans (grown_of_below (below_alloc (below_drew1 (Below.refl w3.heap.size w3)) (.cells #[.string p.f7, .string p.f8] 68)) (Value.slice A5' x.f5.length c5').ownBlock) hgC; have z5 := cell_grown hgw e5 HBN.out; have zf : wC.frozen? ⟨b, i * 7 + 5, none⟩ = false := (by obtain ⟨cs, hcs⟩ := HBT.out; exact blk_frozen (blk_grown hcs hgw HBN.out) _); have hws := hgC.size; have HRC := Aside0.mk hRC; have HGW := Aside0.mk hgw; have HWS := Aside0.mk hws; clear hRC hgC hgw hws))
      all_goals
       have hgw := HGW.out
       have hws := HWS.out
       have hRC := HRC.out
       have hrow : ∀ k, (Value.slice A5' x.f5.length c5').ownBlock = some k → oki k := fun k hk => H5.out.1 k hk
       have hws3 : w3.heap.size + 1 ≤ wC.heap.size := by simpa using hws
       have h63 := Kd.R_over' H6.out (Kd.R_typed H5.out) (by decide) hgw
       have hH3 := Kd.H_widen (Kd.H_mono HH.out (ok' := fun k => (ok k ∧ k < w.heap.size) ∨ (w3.heap.size ≤ k ∧ k < wC.heap.size)) (fun k hk => .inl hk))
       have hH4 := Kd.H_grown hH3 hgw (fun k hk => .inl (hrow k hk))
       have HD3m : Disp w3 base g (fun k => (ok k ∧ k < w.heap.size) ∨ (w3.heap.size ≤ k ∧ k < wC.heap.size)) (.slice (some ⟨b, 0, none⟩) n cap) ns r nx := HD3.out.mono (fun k hk => .inl hk) (fun hk => by rcases hk with hk | hk; exact HD.out.away hk.1; have := HBLT.out; omega)
       have hD5 := HD3m.put (j := 5) (seg := [.slice AC m5 cC]) (x' := { x with f5 := x.f5.take L ++ ⟨p.f7, p.f8⟩ :: x.f5.drop L }) (hgw.block g HBLT.out (fun he => HD3.out.away (HOKI.out g (hrow g he.symm)).1)) hH4 hi (show 5 + 1 ≤ 7 by omega) (k63_mkM wC base (fun k => oki k ∨ ((ok k ∧ k < w.heap.size) ∨ (w3.heap.size ≤ k ∧ k < wC.heap.size)) ∧ w3.heap.size ≤ k) { x with f5 := x.f5.take L ++ ⟨p.f7, p.f8⟩ :: x.f5.drop L } (Kd.R_mono hRC (fun k hk => by
        rcases hk with hk | hk
        ·
         exact .inl hk
        ·
         have h1 : w3.heap.size + 1 ≤ k := by simpa using hk.1
         exact .inr ⟨.inr ⟨by omega, hk.2⟩, by omega⟩)) (Kd.R_mono h63 (fun k hk => .inl hk))) (fun k hk => hk) HX.out rfl
       have HD5 := Aside0.mk hD5
       have HCH : Aside0 (Chg w (wC.setCell ⟨b, i * 7 + 5, none⟩ (.slice AC m5 cC)) ok) := ⟨((Chg.of_below HB3.out ok).grown hgw (fun k hk => .inl (HOKI.out k (hrow k hk)).1.1)).grown (grown_cell wC b (i * 7 + 5) _) (fun k hk => by injection hk with hk; subst hk; exact .inl HD3.out.okb.1)⟩
       clear hRC hgw hrow hws hws3 h63 hH3 hH4 HD3m hD5
       go_wp2_with fail
       go_meet
       refine ⟨?_, HCH.out⟩
       rw [HV.out]
       exact HD5.out.mono (fun k hk => by rcases hk with hk | hk; exact .inl hk.1; exact .inr ⟨by omega, by simpa [World.setCell] using hk.2⟩) (fun hk => by rcases hk with hk | hk; exact HD.out.away hk; have := blk_lt HD.out.box; omega)
     case rest =>
      have HCUT := Aside0.mk hcut
      clear hcut
      go_wp2_with fail
      go_ret
      exact ⟨by rw [HV.out]; rfl, HCUT.out.1, HCUT.out.2⟩
end Go.Proofs.Ytleofbidijbahaa.D
namespace Go.Proofs.Ytleofbidijbahaa.D
open Go.RowKit Go.Proofs.YtleofbidijbahaaW.PrintWords Go.Proofs.YtleofbidijbahaaW.PrintLast Go.Proofs.YtleofbidijbahaaW.PrintMore
attribute [local go_sem] max2_int min2_int max_two min_two max_three min_three max_four min_four   -- for this text's walks alone
set_option linter.unusedVariables false
set_option linter.unusedSimpArgs false
theorem run_clear_cellsN {P : Program} (w : World) (t e ty : TypeId) (z : Value) (ht : P.underlying t = some (.slice e)) (hv : ∀ w, (zeroValue e).run P w = .ok z w) (b o n c : Nat) (hn : 0 < n)
  (hc : ∀ j, j < n * z.cells.size → (w.cell? ⟨b, o + j, none⟩).isSome = true) (hf : ∀ j, j < n * z.cells.size → w.frozen? ⟨b, o + j, none⟩ = false) (h1 : ∀ v ∈ (Builtin.zeroCells z.cells n).toList, v.oneCell' = true) :
  (Builtin.clear_ #[t] ty #[.slice (some ⟨b, o, none⟩) n c]).run P w = .ok (.tuple #[]) (w.setCells b o (Builtin.zeroCells z.cells n).toList) := by
 have hl : (Builtin.zeroCells z.cells n).toList.length = n * z.cells.size := by simp [Builtin.zeroCells]
 have hst := run_storeCells_cells (P := P) b o (Builtin.zeroCells z.cells n).toList 0 w (by rw [hl]; simpa using hc) (by rw [hl]; simpa using hf) h1
 simp only [Nat.add_zero] at hst
 obtain ⟨m, rfl⟩ : ∃ m, n = m + 1 := ⟨n - 1, by omega⟩
 simp [Builtin.clear_, run_underlying ht, hv, hst]
theorem R_delete_stepg {P : Program} {ops : Array Oper} {o : Oper} {a : Act} {Kc : Act → World → Prop} {Q : Exit → Act → World → Prop} {E : Prop} {α : Type} (d : Kd α) {W : World} (base : Nat) (hgd : o.guard = none) (s x : Operand) (t e : TypeId) (ho : o.op = .call { callee := .builtin .append, args := #[s, x], argTypes := #[t, t] })
  (ht : P.underlying t = some (.slice e)) (hinfo : (P.info? e).map (·.size) = some d.sz) {g n c k m c2 : Nat} {A : Option Addr} {xs : List α} {ok : Nat → Prop}
  (hs : a.eval s = .slice (some ⟨g, 0, none⟩) k c) (hx : a.eval x = .slice A m c2) (hA : A = if c = k + 1 then some ⟨g, 0, none⟩ else some ⟨g, (k + 1) * d.sz, none⟩) (hm : m = n - (k + 1))
  (HO : d.R e W base ok (.slice (some ⟨g, 0, none⟩) n c) xs) (hk : k < n) (hbase : base ≤ W.heap.size)
  (h : ∀ w1, d.R e w1 base ok (.slice (some ⟨g, 0, none⟩) (n - 1) c) (xs.eraseIdx k) → W.grownBy w1 (some g) → Kc (a.put o.dst (.slice (some ⟨g, 0, none⟩) (n - 1) c)) w1) :
  if Region.wanted o (yielded ops a.tmps) = true then Oper.wp P o a W Kc Q else E := by
 have hw : Region.wanted o (yielded ops a.tmps) = true := by simp [Region.wanted, hgd]
 have hh := Kd.R_delete_step (P := P) (ops := ops) (o := o) (a := a) (Kc := Kc) (Q := Q) d (w0 := W) base hw s x t e ho ht hinfo hs hx (by rw [hA]; simp [add_plain]) hm HO hk (Below.refl _ _) hbase (fun w1 hr _ hg => h w1 hr hg)
 rw [if_pos hw] at hh ⊢
 exact hh
theorem zero2 : (Builtin.zeroCells (Value.agg #[.string ⟨#[]⟩, .string ⟨#[]⟩]).cells 1).toList = [.string ⟨#[]⟩, .string ⟨#[]⟩] := by kernel_rfl
set_option maxHeartbeats 4000000 in
set_option maxRecDepth 100000 in
theorem delA_is (g n c k : Nat) (xs : List S68) (base : Nat) (ok : Nat → Prop) (w : World) (hR : Kd.R k68 68 w base ok (.slice (some ⟨g, 0, none⟩) n c) xs) (hk : k < n) (hbase : base ≤ w.heap.size) :
  Calls Try.prog 96 #[.slice (some ⟨g, 0, none⟩) n c, .int .i64 k, .int .i64 ((k : Int) + 1)] w fun e w' => e = .returned (.slice (some ⟨g, 0, none⟩) (n - 1) c) ∧ Kd.R k68 68 w' base ok (.slice (some ⟨g, 0, none⟩) (n - 1) c) (xs.eraseIdx k) ∧ w.grownBy w' (some g) := by
 have hrd := Kd.R_reads' hR
 have hnc := hrd.2.1
 have hn := hrd.1
 have hnm : n ≤ 9223372036854775807 := by have := hrd.2.2.2.1; omega
 obtain ⟨inner, ho⟩ := Kd.R_own hR
 have hcm : c ≤ 9223372036854775807 := by
  rcases ho.2 with ⟨h, _⟩ | ⟨g', cap, cur, h, _, _, _, h2, _⟩
  ·
   cases h
  ·
   injection h with _ _ h3
   subst h3
   unfold maxLen at h2
   omega
 have HR := Aside0.mk hR
 have HBASE := Aside0.mk hbase
 have hne : ¬ ((k : Int) = (k : Int) + 1) := by omega
 have hkn : (k : Int) + 1 ≤ (n : Int) := by omega
 have htn : ((k : Int) + 1).toNat = k + 1 := by omega
 clear hR hrd hn ho hbase
 have HW : Aside0 (∀ w1, Kd.R k68 68 w1 base ok (.slice (some ⟨g, 0, none⟩) (n - 1) c) (xs.eraseIdx k) → ∃ w2, (∀ ty sl sc, sl = 1 → (Builtin.clear_ #[48] ty #[.slice (some ⟨g, (n - 1) * 2, none⟩) sl sc]).run Try.prog w1 = .ok (.tuple #[]) w2) ∧ Kd.R k68 68 w2 base ok (.slice (some ⟨g, 0, none⟩) (n - 1) c) (xs.eraseIdx k) ∧ w1.grownBy w2 (some g)) := ⟨fun w1 h1 => by
  obtain ⟨cs, hcs⟩ := Kd.R_typed h1 g (by simp [Value.ownBlock])
  obtain ⟨inner, ho⟩ := Kd.R_own h1
  have hsz : cs.size = c * 2 := by
   rcases ho.2 with ⟨h, _⟩ | ⟨g', cap, cur, h, _, hh, _, _, h2, _⟩
   ·
    cases h
   ·
    injection h with ha _ h3
    injection ha with ha
    injection ha with ha
    subst h3 ha
    rw [hh] at hcs
    injection hcs with hcs
    injection hcs with hcs
    rw [← hcs]; exact h2
  refine ⟨_, fun ty sl sc hsl => ?_, R_tail (o := (n - 1) * 2) (seg := (Builtin.zeroCells (Value.agg #[.string ⟨#[]⟩, .string ⟨#[]⟩]).cells 1).toList) h1 (Nat.le_refl _) (by rw [zero2]; show (n - 1) * 2 + 2 ≤ c * 2; omega), grown_cells w1 g _ _⟩
  subst hsl
  exact run_clear_cellsN w1 48 68 ty (.agg #[.string ⟨#[]⟩, .string ⟨#[]⟩]) Try.underlying48 (fun W => by kernel_rfl) g ((n - 1) * 2) 1 sc (by omega) (fun j hj => by have hj2 : j < 1 * 2 := hj; rw [blk_cell hcs]; rw [Array.getElem?_eq_getElem (by omega)]; rfl) (fun j _ => blk_frozen hcs _) (fun v hv => by
   rw [zero2] at hv
   rcases List.mem_cons.1 hv with rfl | hv
   ·
    rfl
   ·
    rw [List.mem_singleton.1 hv]; rfl)⟩
 have hcn : ¬ c = n - 1 := by omega
 have hn1 : n - (n - 1) = 1 := by omega
 have hb4 : (n : Int) - 1 ≤ (n : Int) := by omega
 have hb5 : ((n - 1 : Nat) : Int) ≤ (n : Int) := by omega
 have hb6 : n ≤ c := hnc
 have hb7 : k ≤ c := by omega
 have hb8 : (k : Int) ≤ (k : Int) + 1 := by omega
 have hb9 : (0 : Int) ≤ (k : Int) + 1 := by omega
 by_cases hck : c = k + 1
 ·
  subst hck
  go_enter Try.func96, Try.ntmps96
  go_wp2_with fail
  go_region_law (refine R_delete_stepg k68 base rfl (.tmp 22) (.tmp 25) 48 68 rfl Try.underlying48 (by kernel_rfl) (g := g) (n := n) (c := k + 1) (k := k) (A := some ⟨g, 0, none⟩) (m := n - (k + 1)) (c2 := 0) (by simp [Act.eval, Act.put]) (by simp [Act.eval, Act.put] <;> omega) (by simp) rfl (Kd.R_drew HR.out) hk HBASE.out ?_; intro w1 ho hg; have HO := Aside0.mk ho; have HG := Aside0.mk (show w.grownBy w1 (some g) from ⟨hg.os, hg.tape, hg.output, hg.size, hg.block⟩); clear ho hg)
  obtain ⟨w2, hcl, hr2, hg2⟩ := HW.out w1 HO.out
  have hcl1 := fun ty sc => hcl ty 1 sc rfl
  have HR2 := Aside0.mk hr2
  have HG2 := Aside0.mk (World.grownBy.trans HG.out hg2)
  clear hcl hr2 hg2
  go_wp2_with fail
  go_ret
  exact ⟨rfl, HR2.out, HG2.out⟩
 ·
  go_enter Try.func96, Try.ntmps96
  go_wp2_with fail
  go_region_law (refine R_delete_stepg k68 base rfl (.tmp 22) (.tmp 25) 48 68 rfl Try.underlying48 (by kernel_rfl) (g := g) (n := n) (c := c) (k := k) (A := some ⟨g, (k + 1) * 2, none⟩) (m := n - (k + 1)) (c2 := c - (k + 1)) (by simp [Act.eval, Act.put]) (by simp [Act.eval, Act.put]) (by rw [if_neg hck]; rfl) rfl (Kd.R_drew HR.out) hk HBASE.out ?_; intro w1 ho hg; have HO := Aside0.mk ho; have HG := Aside0.mk (show w.grownBy w1 (some g) from ⟨hg.os, hg.tape, hg.output, hg.size, hg.block⟩); clear ho hg)
  obtain ⟨w2, hcl, hr2, hg2⟩ := HW.out w1 HO.out
  have hcl1 := fun ty sc => hcl ty 1 sc rfl
  have HR2 := Aside0.mk hr2
  have HG2 := Aside0.mk (World.grownBy.trans HG.out hg2)
  clear hcl hr2 hg2
  go_wp2_with fail
  go_ret
  exact ⟨rfl, HR2.out, HG2.out⟩
end Go.Proofs.Ytleofbidijbahaa.D
