import Derived.Test.YtleofbidijbahaaYD0
import Derived.Test.YtleofbidijbahaaYD19
import Derived.Test.YtleofbidijbahaaYD24
namespace Go.Proofs.Ytleofbidijbahaa.D
open Go.RowKit Go.Proofs.YtleofbidijbahaaW.PrintWords Go.Proofs.YtleofbidijbahaaW.PrintLast Go.Proofs.YtleofbidijbahaaW.PrintMore
attribute [local go_sem] max2_int min2_int max_two min_two max_three min_three max_four min_four   -- for this text's walks alone
set_option linter.unusedVariables false
set_option linter.unusedSimpArgs false
def unsetE (x : S63) (name : ByteArray) : Int × S63 := if hasA x.f5 name = false then (31, x) else (0, { x with f5 := x.f5.eraseIdx (lowA x.f5 name) })
def writeE (x : S63) (text : ByteArray) : Int × S63 := if 128 < text.size then (5, x) else (0, { x with f4 := text })
abbrev okN (ok : Nat → Prop) (w w' : World) : Nat → Prop := fun k => ok k ∨ (w.heap.size ≤ k ∧ k < w'.heap.size)
theorem Disp.errN {w w' : World} {base g : Nat} {ok : Nat → Prop} {v : Value} {ns : List S63} {r nx : Int} (h : Disp w base g ok v ns r nx) (hb : Below w.heap.size w w') : Disp w' base g (okN ok w w') v ns r nx :=
 (h.below hb).mono (fun k hk => .inl hk) (fun hk => by rcases hk with hk | hk; exact h.away hk; have := blk_lt h.box; omega)
theorem Disp.okN_ {w w' : World} {base g : Nat} {ok : Nat → Prop} {v v' : Value} {ns ns' : List S63} {r nx r' nx' : Int} (h : Disp w base g ok v ns r nx) (h' : Disp w' base g ok v' ns' r' nx') : Disp w' base g (okN ok w w') v' ns' r' nx' :=
 h'.mono (fun k hk => .inl hk) (fun hk => by rcases hk with hk | hk; exact h.away hk; have := blk_lt h.box; omega)
set_option maxRecDepth 100000 in
set_option maxHeartbeats 4000000 in
theorem unset_is (base g : Nat) (ok : Nat → Prop) (b n cap i : Nat) (ns : List S63) (r nx : Int) (x : S63) (p : S45) (w : World) (hD : Disp w base g ok (.slice (some ⟨b, 0, none⟩) n cap) ns r nx) (hi : i < n) (hx : rd_T63 ns (i : Int) = x) (hs : RisesA x.f5) (hl : x.f5.length ≤ 100000) (hbase : base ≤ w.heap.size) :
  Calls Try.prog 69 #[.pointer (some ⟨b, i * 7, none⟩), patchV p] w fun e w' => e = .returned (.int .i64 (unsetE x p.f7).1) ∧ Disp w' base g (okN ok w w') (.slice (some ⟨b, 0, none⟩) n cap) (ns.set i (unsetE x p.f7).2) r nx ∧ Chg w w' ok := by
 have hlen : ns.length = n := hD.sees.len
 obtain ⟨W1, hW1⟩ : ∃ W, w.alloc (.cells #[.int .i64 p.f0, .int .i64 p.f1, .int .i64 p.f2, .int .i64 p.f3, .string p.f4, .string p.f5, .string p.f6, .string p.f7, .string p.f8] 45) = W := ⟨_, rfl⟩
 have hb1 : Below w.heap.size w W1 := by rw [← hW1]; exact (Below.refl _ _).alloc (Nat.le_refl _) _
 have hx1 : PBox W1 w.heap.size p := by rw [← hW1]; exact World.alloc_heap_new w _
 have hD1 := hD.bound.below hb1
 obtain ⟨oki, A5, c5, A6, c6, hH, h5, h6, hoki, hfr, -, -, -, -, -, e5, -⟩ := hD1.elem i hi x hx
 obtain ⟨n5, hn5⟩ : ∃ n5, x.f5.length = n5 := ⟨_, rfl⟩
 rw [hn5] at e5 hl
 have HATTR := Aside0.mk (attr_is b (i * 7) x.f5 A5 c5 n5 p.f7 W1 e5 (by have := (Kd.R_reads' h5).2.2; rwa [hn5] at this) hn5 hl hs)
 have y7 : W1.cell? ⟨w.heap.size, 7, none⟩ = some (.string p.f7) := blk_cell hx1 7
 have HD := Aside0.mk hD
 have HD1 := Aside0.mk hD1
 have HB1 := Aside0.mk hb1
 have HX := Lib.hid hx
 have HN5 := Lib.hid hn5
 have HLEN := Lib.hid hlen
 have HBASE := Aside0.mk hbase
 obtain ⟨R, hR⟩ : ∃ R, unsetE x p.f7 = R := ⟨_, rfl⟩
 rw [hR]
 unfold unsetE at hR
 have HR := Lib.hid hR
 clear hb1 hx1 hD1 hH h5 h6 hoki hfr hlen hx hD hn5 hR hs e5 hbase
 go_enter Try.func69, Try.ntmps69
 go_wp2_with fail
 refine HATTR.out.mono ?_
 rintro e w2 ⟨rfl, hb2⟩
 have HD2 := Aside0.mk (HD1.out.below hb2)
 have HB2 := Aside0.mk (HB1.out.trans (hb2.mono HB1.out.size))
 obtain ⟨L, hL⟩ : ∃ L, lowA x.f5 p.f7 = L := ⟨_, rfl⟩
 obtain ⟨hA, hhA⟩ : ∃ hA, hasA x.f5 p.f7 = hA := ⟨_, rfl⟩
 have HLLT : Aside0 (hA = true → L < n5) := ⟨fun h => by rw [← hL, ← HN5.out]; exact hasA_lt (hhA.trans h)⟩
 rw [hL, hhA] at HR ⊢
 clear hb2 HATTR HD1 HB1 hL hhA y7
 cases hA with
 | false =>
  have HV : Aside0 (R = (31, x)) := ⟨by rw [← HR.out, if_pos rfl]⟩
  go_wp2_with fail
  go_ret
  exact ⟨by rw [HV.out]; rfl, by rw [HV.out]; exact (HD.out.errN HB2.out).same (by have := HLEN.out; omega) HX.out, Chg.of_below HB2.out ok⟩
 | true =>
  have HV : Aside0 (R = (0, { x with f5 := x.f5.eraseIdx L })) := ⟨by rw [← HR.out, if_neg (by decide)]⟩
  have hLn := HLLT.out rfl
  obtain ⟨oki, A5', c5', A6', c6', hH, h5, h6, hoki, hfr, -, -, -, -, -, e5, -⟩ := HD2.out.elem i hi x HX.out
  obtain ⟨b5, cap5, ee, -, -, -⟩ := Kd.R_form h5 (by rw [HN5.out]; omega)
  obtain ⟨rfl, -, rfl⟩ : A5' = some ⟨b5, 0, none⟩ ∧ x.f5.length = x.f5.length ∧ c5' = cap5 := by simpa using ee
  rw [HN5.out] at e5 h5 hH
  have hle : w.heap.size ≤ w2.heap.size := HB2.out.size
  have HDEL := Aside0.mk (delA_is b5 n5 c5' L x.f5 base oki w2 h5 hLn (by have := HBASE.out; omega))
  have hok5 : oki b5 := h5.1 b5 (by simp [Value.ownBlock])
  have hw1 : IntKind.i64.wrap ((L : Int) + 1) = (L : Int) + 1 := by rw [IntKind.wrap_i64]; omega
  have HH := Aside0.mk hH
  have H5 := Aside0.mk h5
  have H6 := Aside0.mk h6
  have HOKI := Aside0.mk hoki
  have HOK5 := Aside0.mk hok5
  have HBT : Aside0 (∃ cs, w2.heap[b]? = some (.cells cs 63 (0, 0))) := ⟨Kd.S_typed HD2.out.row b (by simp [Value.ownBlock])⟩
  clear hH h5 h6 hoki hfr ee hok5
  go_wp2_with fail
  refine HDEL.out.mono ?_
  rintro e w3 ⟨rfl, hr3, hg3⟩
  have hbn : some b ≠ some b5 := fun he => by injection he with he; exact (HOKI.out b5 HOK5.out).2 he.symm
  have z5 := cell_grown hg3 e5 hbn
  obtain ⟨cs, hcs⟩ := HBT.out
  have zf : w3.frozen? ⟨b, i * 7 + 5, none⟩ = false := blk_frozen (blk_grown hcs hg3 hbn) _
  have h63 := Kd.R_over' H6.out (v := .slice (some ⟨b5, 0, none⟩) n5 c5') (Kd.R_typed H5.out) (by decide) (by simpa [Value.ownBlock] using hg3)
  have hH3 := Kd.H_grown HH.out hg3 (fun k hk => by injection hk with hk; subst hk; exact HOK5.out)
  have hD4 := HD2.out.put (j := 5) (seg := [.slice (some ⟨b5, 0, none⟩) (n5 - 1) c5']) (x' := { x with f5 := x.f5.eraseIdx L }) (hg3.block g (blk_lt HD2.out.box) (fun he => by injection he with he; exact HD2.out.away (he ▸ (HOKI.out b5 HOK5.out).1))) hH3 hi (show 5 + 1 ≤ 7 by omega) (k63_mkM w3 base oki { x with f5 := x.f5.eraseIdx L } hr3 h63) (fun _ h => h) HX.out rfl
  have HD4 := Aside0.mk (hD4.mono (ok' := ok) (fun k hk => hk.1) HD.out.away)
  have HCH : Aside0 (Chg w (w3.setCell ⟨b, i * 7 + 5, none⟩ (.slice (some ⟨b5, 0, none⟩) (n5 - 1) c5')) ok) := ⟨((Chg.of_below HB2.out ok).grown hg3 (fun k hk => by injection hk with hk; subst hk; exact .inl (HOKI.out b5 HOK5.out).1.1)).grown (grown_cell w3 b (i * 7 + 5) _) (fun k hk => by injection hk with hk; subst hk; exact .inl HD2.out.okb.1)⟩
  clear hr3 hg3 hbn hcs h63 hH3 hD4 e5
  go_wp2_with fail
  go_ret
  exact ⟨by rw [HV.out]; rfl, by rw [HV.out]; exact HD.out.okN_ HD4.out, HCH.out⟩
set_option maxRecDepth 100000 in
set_option maxHeartbeats 4000000 in
theorem write_is (base g : Nat) (ok : Nat → Prop) (b n cap i : Nat) (ns : List S63) (r nx : Int) (x : S63) (p : S45) (w : World) (hD : Disp w base g ok (.slice (some ⟨b, 0, none⟩) n cap) ns r nx) (hi : i < n) (hx : rd_T63 ns (i : Int) = x) :
  Calls Try.prog 70 #[.pointer (some ⟨b, i * 7, none⟩), patchV p] w fun e w' => e = .returned (.int .i64 (writeE x p.f6).1) ∧ Disp w' base g (okN ok w w') (.slice (some ⟨b, 0, none⟩) n cap) (ns.set i (writeE x p.f6).2) r nx ∧ Chg w w' ok := by
 have hlen : ns.length = n := hD.sees.len
 obtain ⟨W1, hW1⟩ : ∃ W, w.alloc (.cells #[.int .i64 p.f0, .int .i64 p.f1, .int .i64 p.f2, .int .i64 p.f3, .string p.f4, .string p.f5, .string p.f6, .string p.f7, .string p.f8] 45) = W := ⟨_, rfl⟩
 have hb1 : Below w.heap.size w W1 := by rw [← hW1]; exact (Below.refl _ _).alloc (Nat.le_refl _) _
 have hx1 : PBox W1 w.heap.size p := by rw [← hW1]; exact World.alloc_heap_new w _
 have hD1 := hD.bound.below hb1
 obtain ⟨oki, A5, c5, A6, c6, hH, h5, h6, hoki, hfr, -, -, -, -, e4, -, -⟩ := hD1.elem i hi x hx
 have y6 : W1.cell? ⟨w.heap.size, 6, none⟩ = some (.string p.f6) := blk_cell hx1 6
 have f4 := hfr 4
 have hD4 := hD1.put (j := 4) (seg := [.string p.f6]) (x' := { x with f4 := p.f6 }) rfl hH hi (show 4 + 1 ≤ 7 by omega) (k63_mkM W1 base oki { x with f4 := p.f6 } h5 h6) (fun _ h => h) hx rfl
 have HD4 := Aside0.mk (hD4.mono (ok' := ok) (fun k hk => hk.1) hD.away)
 have HCH : Aside0 (Chg w (W1.setCell ⟨b, i * 7 + 4, none⟩ (.string p.f6)) ok) := ⟨(Chg.of_below hb1 ok).grown (grown_cell W1 b (i * 7 + 4) _) (fun k hk => by injection hk with hk; subst hk; exact .inl hD1.okb.1)⟩
 have HD := Aside0.mk hD
 have HB1 := Aside0.mk hb1
 have HX := Lib.hid hx
 have HLEN := Lib.hid hlen
 obtain ⟨R, hR⟩ : ∃ R, writeE x p.f6 = R := ⟨_, rfl⟩
 rw [hR]
 unfold writeE at hR
 obtain ⟨sz, hsz⟩ : ∃ sz, p.f6.size = sz := ⟨_, rfl⟩
 rw [hsz] at hR
 have HR := Lib.hid hR
 have HSZ := Lib.hid hsz
 clear hb1 hx1 hD1 hH h5 h6 hoki hfr hlen hx hD hR hD4
 go_enter Try.func70, Try.ntmps70
 by_cases h128 : 128 < sz
 ·
  have HV : Aside0 (R = (5, x)) := ⟨by rw [← HR.out, if_pos h128]⟩
  have d8 : decide ((sz : Int) > 128) = true := decide_eq_true (by omega)
  clear HR
  go_wp2_with fail
  go_ret
  exact ⟨by rw [HV.out]; rfl, by rw [HV.out]; exact (HD.out.errN HB1.out).same (by have := HLEN.out; omega) HX.out, Chg.of_below HB1.out ok⟩
 ·
  have HV : Aside0 (R = (0, { x with f4 := p.f6 })) := ⟨by rw [← HR.out, if_neg h128]⟩
  have d8 : decide ((sz : Int) > 128) = false := decide_eq_false (by omega)
  clear HR
  go_wp2_with fail
  go_ret
  exact ⟨by rw [HV.out]; rfl, by rw [HV.out]; exact HD.out.okN_ HD4.out, HCH.out⟩
end Go.Proofs.Ytleofbidijbahaa.D
