import Derived.Test.YtleofbidijbahaaYD0
import Derived.Test.YtleofbidijbahaaYD5
import Derived.Test.YtleofbidijbahaaYD19
import Derived.Test.YtleofbidijbahaaYD17
import Derived.Test.YtleofbidijbahaaYD24
import Derived.Test.YtleofbidijbahaaYD27
import Derived.Test.YtleofbidijbahaaYD28
import Derived.Test.YtleofbidijbahaaYD29
import Derived.Test.YtleofbidijbahaaYD30
import Derived.Test.YtleofbidijbahaaYD31
namespace Go.Proofs.Ytleofbidijbahaa.D
open Go.RowKit Go.Proofs.YtleofbidijbahaaW.PrintWords Go.Proofs.YtleofbidijbahaaW.PrintLast Go.Proofs.YtleofbidijbahaaW.PrintMore
attribute [local go_sem] max2_int min2_int max_two min_two max_three min_three max_four min_four   -- for this text's walks alone
set_option linter.unusedVariables false
set_option linter.unusedSimpArgs false
def nodeOp (x : S63) (p : S45) : Int × S63 := if p.f0 = 4 then setE x p.f7 p.f8 else if p.f0 = 5 then unsetE x p.f7 else writeE x p.f6
def goneOf (ns : List S63) (i : Nat) : Option (List Int) := goneF (offF ns i) 1000000 [(rd_T63 (offF ns i) (i : Int)).f0] []
def doE (s : S28) (p : S45) : Int × S28 :=
 if p.f0 = 1 then createE s p else if p.f0 = 2 then hangE s p else if p.f0 = 7 then rootE s p.f1 else
 if ¬ (p.f0 = 3 ∨ p.f0 = 4 ∨ p.f0 = 5 ∨ p.f0 = 6) then (22, s) else
 match nodeOf s.f0 p.f1 with
 | none => (71, s)
 | some x =>
  if p.f0 = 3 then (0, awayS s (lowP s.f0 p.f1) ((goneOf s.f0 (lowP s.f0 p.f1)).getD [])) else
  if (x.f2.toList.isEmpty != (p.f0 == 6)) = true then (81, s) else
  ((nodeOp x p).1, ⟨s.f0.set (lowP s.f0 p.f1) (nodeOp x p).2, s.f1, s.f2⟩)
structure Fit (s : S28) (p : S45) : Prop where
 lt : ∀ y ∈ s.f0, y.f0 < s.f2
 nx : 0 ≤ s.f2
 root : InI s.f1
 ids : ∀ i, ∀ y ∈ offF s.f0 i, InI y.f0
 hang : ∀ x y, nodeOf s.f0 p.f1 = some x → nodeOf s.f0 p.f2 = some y → 0 ≤ p.f3 → p.f3 ≤ others x y p.f2 → p.f3.toNat ≤ (rd_T63 (offF s.f0 (lowP s.f0 p.f1)) (lowP s.f0 p.f2 : Int)).f6.length ∧ (rd_T63 (offF s.f0 (lowP s.f0 p.f1)) (lowP s.f0 p.f2 : Int)).f6.length < 1000000000
 away : ∀ i, i < s.f0.length → ∃ G, goneOf s.f0 i = some G
 attrs : ∀ x ∈ s.f0, RisesA x.f5 ∧ x.f5.length ≤ 100000
theorem Post.from_ {w W w' : World} {base g : Nat} {ok : Nat → Prop} {R : Int × S28} {e : Ending} (hb : Below w.heap.size w W) (hgl : g < w.heap.size) (hg : ¬ ok g) (h : Post W base g (fun k => ok k ∧ k < w.heap.size) R e w') : Post w base g ok R e w' := by
 obtain ⟨v, h1, h2, h3⟩ := h
 refine ⟨v, h1, h2.mono (fun k hk => ?_) (fun hk => ?_), (Chg.of_below hb _).then_ h3 (fun k hk => ?_)⟩
 ·
  rcases hk with hk | hk
  ·
   exact .inl hk.1
  ·
   exact .inr ⟨by have := hb.size; omega, hk.2⟩
 ·
  rcases hk with hk | hk
  ·
   exact hg hk
  ·
   omega
 ·
  rcases hk with hk | hk
  ·
   exact .inl (.inl hk.1)
  ·
   exact .inl (.inr hk)
theorem Post.same {w w' : World} {base g : Nat} {ok : Nat → Prop} {z : Int} {v : Value} {ns' : List S63} {r nx : Int} {e : Ending} (hgl : g < w.heap.size) (hg : ¬ ok g) (h : e = .returned (.int .i64 z) ∧ Disp w' base g (fun k => ok k ∨ (w.heap.size ≤ k ∧ k < w'.heap.size)) v ns' r nx ∧ Chg w w' ok) : Post w base g ok (z, ⟨ns', r, nx⟩) e w' :=
 ⟨v, h.1, h.2.1, h.2.2.mono (fun _ hk => .inl hk)⟩
set_option maxRecDepth 100000 in
set_option maxHeartbeats 8000000 in
theorem do_is (base g : Nat) (ok : Nat → Prop) (v : Value) (ns : List S63) (r nx : Int) (p : S45) (w : World) (hD : Disp w base g ok v ns r nx) (hF : Fit ⟨ns, r, nx⟩ p) (hbase : base ≤ w.heap.size) :
  Calls Try.prog 34 #[.pointer (some ⟨g, 0, none⟩), patchV p] w (Post w base g ok (doE ⟨ns, r, nx⟩ p)) := by
 obtain ⟨A, c, rfl⟩ := hD.slice_
 obtain ⟨n, hn⟩ : ∃ n, ns.length = n := ⟨_, rfl⟩
 have hn2 := hn
 rw [hn] at hD
 obtain ⟨W1, hW1⟩ : ∃ W, w.alloc (.cells #[.int .i64 p.f0, .int .i64 p.f1, .int .i64 p.f2, .int .i64 p.f3, .string p.f4, .string p.f5, .string p.f6, .string p.f7, .string p.f8] 45) = W := ⟨_, rfl⟩
 have hb1 : Below w.heap.size w W1 := by rw [← hW1]; exact (Below.refl _ _).alloc (Nat.le_refl _) _
 have hx1 : PBox W1 w.heap.size p := by rw [← hW1]; exact World.alloc_heap_new w _
 have hD1 := hD.bound.below hb1
 have hgl := blk_lt hD.box
 have y0 : W1.cell? ⟨w.heap.size, 0, none⟩ = some (.int .i64 p.f0) := blk_cell hx1 0
 have y1 : W1.cell? ⟨w.heap.size, 1, none⟩ = some (.int .i64 p.f1) := blk_cell hx1 1
 have y2 : W1.cell? ⟨w.heap.size, 2, none⟩ = some (.int .i64 p.f2) := blk_cell hx1 2
 have y3 : W1.cell? ⟨w.heap.size, 3, none⟩ = some (.int .i64 p.f3) := blk_cell hx1 3
 have y4 : W1.cell? ⟨w.heap.size, 4, none⟩ = some (.string p.f4) := blk_cell hx1 4
 have y5 : W1.cell? ⟨w.heap.size, 5, none⟩ = some (.string p.f5) := blk_cell hx1 5
 have y6 : W1.cell? ⟨w.heap.size, 6, none⟩ = some (.string p.f6) := blk_cell hx1 6
 have y7 : W1.cell? ⟨w.heap.size, 7, none⟩ = some (.string p.f7) := blk_cell hx1 7
 have y8 : W1.cell? ⟨w.heap.size, 8, none⟩ = some (.string p.f8) := blk_cell hx1 8
 have hb1s : base ≤ W1.heap.size := by have := hb1.size; omega
 have HCREATE := Aside0.mk (create_is base g _ _ ns r nx p W1 hD1 hF.lt hF.nx hb1s)
 have HHANG := Aside0.mk (hang_is base g _ _ ns r nx p W1 hD1 hF.hang hb1s)
 have HROOT := Aside0.mk (root_is base g _ _ ns r nx p W1 hD1)
 have HFIND := Aside0.mk (hD1.sees.find p.f1)
 have HFROM : Aside0 (∀ R e w', Post W1 base g (fun k => ok k ∧ k < w.heap.size) R e w' → Post w base g ok R e w') := ⟨fun R e w' h => Post.from_ hb1 hgl hD.away h⟩
 obtain ⟨R, hR⟩ : ∃ R, doE ⟨ns, r, nx⟩ p = R := ⟨_, rfl⟩
 rw [hR]
 unfold doE at hR
 obtain ⟨P, hP⟩ : ∃ P, Post w base g ok R = P := ⟨_, rfl⟩
 rw [hP]
 have HP := Aside0.mk hP
 have HR := Lib.hid hR
 have HD := Aside0.mk hD
 have HD1 := Aside0.mk hD1
 have HX1 := Aside0.mk hx1
 have HB1 := Aside0.mk hb1
 have HF := Aside0.mk hF
 have HN := Lib.hid hn
 have HBASE := Aside0.mk hbase
 clear hP hR hD hD1 hx1 hb1 hF hn hn2 hbase hgl hb1s
 go_enter Try.func34, Try.ntmps34
 by_cases h1 : p.f0 = 1
 ·
  have hr := HR.out
  rw [if_pos h1] at hr
  have HV := Aside0.mk hr
  have dd := beq_iff_eq.2 h1
  clear h1
  clear hr HR
  go_wp2_with fail
  refine HCREATE.out.mono ?_
  rintro e w2 hpost
  have hp2 := HFROM.out _ _ _ hpost
  rw [HV.out, HP.out] at hp2
  obtain ⟨v2, rfl, -, -⟩ := hpost
  go_wp2_with fail
  (try go_ret)
  exact hp2
 have hr := HR.out
 rw [if_neg h1] at hr
 replace HR := Lib.hid hr
 clear hr
 have dh1 : (p.f0 == 1) = false := beq_eq_false_iff_ne.2 h1
 by_cases h2 : p.f0 = 2
 ·
  have hr := HR.out
  rw [if_pos h2] at hr
  have HV := Aside0.mk hr
  have dd := beq_iff_eq.2 h2
  clear h2
  clear hr HR
  go_wp2_with fail
  refine HHANG.out.mono ?_
  rintro e w2 hpost
  have hp2 := HFROM.out _ _ _ hpost
  rw [HV.out, HP.out] at hp2
  obtain ⟨v2, rfl, -, -⟩ := hpost
  go_wp2_with fail
  (try go_ret)
  exact hp2
 have hr := HR.out
 rw [if_neg h2] at hr
 replace HR := Lib.hid hr
 clear hr
 have dh2 : (p.f0 == 2) = false := beq_eq_false_iff_ne.2 h2
 by_cases h7 : p.f0 = 7
 ·
  have hr := HR.out
  rw [if_pos h7] at hr
  have HV := Aside0.mk hr
  have dd := beq_iff_eq.2 h7
  clear h7
  clear hr HR
  go_wp2_with fail
  refine HROOT.out.mono ?_
  rintro e w2 hpost
  have hp2 := HFROM.out _ _ _ hpost
  rw [HV.out, HP.out] at hp2
  obtain ⟨v2, rfl, -, -⟩ := hpost
  go_wp2_with fail
  (try go_ret)
  exact hp2
 have hr := HR.out
 rw [if_neg h7] at hr
 replace HR := Lib.hid hr
 clear hr
 have dh7 : (p.f0 == 7) = false := beq_eq_false_iff_ne.2 h7
 clear HCREATE HHANG HROOT HFROM
 by_cases hk : p.f0 = 3 ∨ p.f0 = 4 ∨ p.f0 = 5 ∨ p.f0 = 6
 ·
  have hr := HR.out
  rw [if_neg (fun h => h hk)] at hr
  replace HR := Lib.hid hr
  clear hr
  have HKK := Aside0.mk hk
  clear hk
  go_upto_if 23 with fail
  go_cut [23] (fun s23 wx => s23 = .bool true ∧ W1 = wx)
  case first =>
   obtain ⟨b3, hb3⟩ : ∃ b, (p.f0 == 3) = b := ⟨_, rfl⟩
   obtain ⟨b4, hb4⟩ : ∃ b, (p.f0 == 4) = b := ⟨_, rfl⟩
   obtain ⟨b5, hb5⟩ : ∃ b, (p.f0 == 5) = b := ⟨_, rfl⟩
   obtain ⟨b6, hb6⟩ : ∃ b, (p.f0 == 6) = b := ⟨_, rfl⟩
   have HOR : Aside0 (b3 = true ∨ b4 = true ∨ b5 = true ∨ b6 = true) := ⟨by
    rcases HKK.out with h | h | h | h
    ·
     exact .inl (by rw [← hb3]; exact beq_iff_eq.2 h)
    ·
     exact .inr (.inl (by rw [← hb4]; exact beq_iff_eq.2 h))
    ·
     exact .inr (.inr (.inl (by rw [← hb5]; exact beq_iff_eq.2 h)))
    ·
     exact .inr (.inr (.inr (by rw [← hb6]; exact beq_iff_eq.2 h)))⟩
   cases b3 with
   | true => 
    go_wp2_with fail
    go_meet
    exact ⟨rfl, rfl⟩
   | false =>
   cases b4 with
   | true => 
    go_wp2_with fail
    go_meet
    exact ⟨rfl, rfl⟩
   | false =>
   cases b5 with
   | true => 
    go_wp2_with fail
    go_meet
    exact ⟨rfl, rfl⟩
   | false =>
   cases b6 with
   | true => 
    go_wp2_with fail
    go_meet
    exact ⟨rfl, rfl⟩
   | false => exact absurd HOR.out (by simp)
  case rest =>
   obtain ⟨rfl, rfl⟩ := hcut
   go_wp2_with fail
   refine HFIND.out.mono ?_
   rintro e w2 ⟨rfl, hb2⟩
   have HB2 := Aside0.mk (HB1.out.trans (hb2.mono HB1.out.size))
   have hD2 := HD1.out.below hb2
   have HX2 : Aside0 (PBox w2 w.heap.size p) := ⟨(hb2.block _ (blk_lt HX1.out)).trans HX1.out⟩
   have HD2 := Aside0.mk hD2
   have y0 : w2.cell? ⟨w.heap.size, 0, none⟩ = some (.int .i64 p.f0) := blk_cell HX2.out 0
   have HERR : Aside0 (∀ z, Post w base g ok (z, ⟨ns, r, nx⟩) (.returned (.int .i64 z)) w2) := ⟨fun z => ⟨_, rfl, HD.out.errN HB2.out, Chg.of_below HB2.out _⟩⟩
   have hr := HR.out
   clear hb2 HR HD1 HX1 HB1 y1 y2 y3 y4 y5 y6 y7 y8
   cases hno : nodeOf ns p.f1 with
   | none =>
    rw [findV_none hno]
    have HV : Aside0 (R = (71, ⟨ns, r, nx⟩)) := ⟨by rw [← hr, hno]⟩
    clear hr hno hD2
    go_wp2_with fail
    (try go_ret)
    rw [← HP.out, HV.out]
    exact HERR.out 71
   | some x =>
   rw [hno] at hr
   obtain ⟨hL, hx, hxid⟩ := nodeOf_some hno
   obtain ⟨b, rfl⟩ := HD.out.form (by have := HN.out; omega)
   rw [findV_own hno]
   simp only at hr
   obtain ⟨L, hLe⟩ : ∃ L, lowP ns p.f1 = L := ⟨_, rfl⟩
   rw [hLe] at hL hx hr ⊢
   have hLn : L < n := by have := HN.out; omega
   have hle2 : base ≤ w2.heap.size := by have := HBASE.out; have := HB2.out.size; omega
   obtain ⟨-, -, -, -, -, -, -, -, -, -, -, -, e2, -⟩ := hD2.elem L hLn x hx
   have HR := Lib.hid hr
   have HX := Lib.hid hx
   by_cases h3 : p.f0 = 3
   ·
    obtain ⟨G, hG⟩ := HF.out.away L hL
    have hr := HR.out
    rw [if_pos h3, hG] at hr
    have HV : Aside0 ((0, awayS ⟨ns, r, nx⟩ L G) = R) := ⟨hr⟩
    have HAWAY := Aside0.mk (away_is base g _ b n c L ns r nx w2 HD2.out hLn 1000000 G _ rfl hG (Nat.le_refl _) (HF.out.ids L) HF.out.root hle2)
    have HFROM : Aside0 (∀ R e w', Post w2 base g (fun k => ok k ∧ k < w.heap.size) R e w' → Post w base g ok R e w') := ⟨fun R e w' h => Post.from_ HB2.out (blk_lt HD.out.box) HD.out.away h⟩
    have dd := beq_iff_eq.2 h3
    clear hr hx hxid hno hL hD2 hG h3 HERR e2 hLe
    go_wp2_with fail
    refine HAWAY.out.mono ?_
    rintro e w3 hpost
    have hp2 := HFROM.out _ _ _ hpost
    rw [HV.out, HP.out] at hp2
    obtain ⟨v2, rfl, -, -⟩ := hpost
    go_wp2_with fail
    (try go_ret)
    exact hp2
   have hr := HR.out
   rw [if_neg h3] at hr
   replace HR := Lib.hid hr
   have d3 : (p.f0 == 3) = false := beq_eq_false_iff_ne.2 h3
   obtain ⟨q, hq⟩ : ∃ q, (x.f2.toList.isEmpty != (p.f0 == 6)) = q := ⟨_, rfl⟩
   rw [hq] at hr
   replace HR := Lib.hid hr
   have hxm : x ∈ ns := by rw [← hx, rd_lt hL]; exact List.getElem_mem _
   have HAT := Aside0.mk (HF.out.attrs x hxm)
   clear hr hno hxid hL hD2 hx h3 HERR hLe hxm
   obtain ⟨c2, hc2⟩ : ∃ b, x.f2.toList.isEmpty = b := ⟨_, rfl⟩
   obtain ⟨c6, hc6⟩ : ∃ b, (p.f0 == 6) = b := ⟨_, rfl⟩
   rw [hc2, hc6] at hq
   have HQ := Lib.hid hq
   clear hq
   go_upto_region 18 with (fail)
   go_cut [48] (fun s48 wx => s48 = .bool q ∧ Below w2.heap.size w2 wx)
   case first =>
    cases c2 <;> cases c6
    ·
     go_wp2_with fail
     go_quiet (fail)
     go_wp2_with fail
     go_meet
     exact ⟨by rw [← HQ.out]; rfl, pw_below_drewN (Below.refl _ _) _⟩
    ·
     go_wp2_with fail
     go_quiet (fail)
     go_wp2_with fail
     go_meet
     exact ⟨by rw [← HQ.out]; rfl, pw_below_drewN (Below.refl _ _) _⟩
    ·
     go_wp2_with fail
     go_quiet (fail)
     go_wp2_with fail
     go_meet
     exact ⟨by rw [← HQ.out]; rfl, pw_below_drewN (Below.refl _ _) _⟩
    ·
     go_wp2_with fail
     go_quiet (fail)
     go_wp2_with fail
     go_meet
     exact ⟨by rw [← HQ.out]; rfl, pw_below_drewN (Below.refl _ _) _⟩
   case rest =>
   obtain ⟨rfl, hb4⟩ := hcut
   clear hc2 hc6 HQ c2 c6
   have HB4 := Aside0.mk (HB2.out.trans (hb4.mono HB2.out.size))
   have HD4 := Aside0.mk (HD2.out.below hb4)
   have hx4 : PBox wc w.heap.size p := (hb4.block _ (blk_lt HX2.out)).trans HX2.out
   have HERR : Aside0 (∀ z, Post w base g ok (z, ⟨ns, r, nx⟩) (.returned (.int .i64 z)) wc) := ⟨fun z => ⟨_, rfl, HD.out.errN HB4.out, Chg.of_below HB4.out _⟩⟩
   have HFROM : Aside0 (∀ R e w', Post wc base g (fun k => ok k ∧ k < w.heap.size) R e w' → Post w base g ok R e w') := ⟨fun R e w' h => Post.from_ HB4.out (blk_lt HD.out.box) HD.out.away h⟩
   have HGL4 : Aside0 (g < wc.heap.size) := ⟨blk_lt HD4.out.box⟩
   have hle4 : base ≤ wc.heap.size := by have := hb4.size; omega
   have hr := HR.out
   clear hb4 HX2 HB2 e2 y0
   cases q with
   | true =>
    rw [if_pos rfl] at hr
    have HV := Aside0.mk hr
    clear hr HR hx4
    go_wp2_with fail
    (try go_ret)
    rw [← HP.out, ← HV.out]
    exact HERR.out 81
   | false =>
   rw [if_neg (by decide)] at hr
   clear HERR HR
   have y0 : wc.cell? ⟨w.heap.size, 0, none⟩ = some (.int .i64 p.f0) := blk_cell hx4 0
   have y1 : wc.cell? ⟨w.heap.size, 1, none⟩ = some (.int .i64 p.f1) := blk_cell hx4 1
   have y2 : wc.cell? ⟨w.heap.size, 2, none⟩ = some (.int .i64 p.f2) := blk_cell hx4 2
   have y3 : wc.cell? ⟨w.heap.size, 3, none⟩ = some (.int .i64 p.f3) := blk_cell hx4 3
   have y4 : wc.cell? ⟨w.heap.size, 4, none⟩ = some (.string p.f4) := blk_cell hx4 4
   have y5 : wc.cell? ⟨w.heap.size, 5, none⟩ = some (.string p.f5) := blk_cell hx4 5
   have y6 : wc.cell? ⟨w.heap.size, 6, none⟩ = some (.string p.f6) := blk_cell hx4 6
   have y7 : wc.cell? ⟨w.heap.size, 7, none⟩ = some (.string p.f7) := blk_cell hx4 7
   have y8 : wc.cell? ⟨w.heap.size, 8, none⟩ = some (.string p.f8) := blk_cell hx4 8
   unfold nodeOp at hr
   have HR := Lib.hid hr
   clear hx4 hr
   by_cases h4 : p.f0 = 4
   ·
    have hr := HR.out
    rw [if_pos h4] at hr
    have HV := Aside0.mk hr
    have HSET := Aside0.mk (set_is base g _ b n c L ns r nx x p wc HD4.out hLn HX.out HAT.out.1 HAT.out.2 hle4)
    have dd := beq_iff_eq.2 h4
    clear hr HR h4
    go_wp2_with fail
    refine HSET.out.mono ?_
    rintro e w5 hpost
    have hp2 := HFROM.out _ _ _ (Post.same HGL4.out HD4.out.away hpost)
    rw [HV.out, HP.out] at hp2
    obtain ⟨rfl, -, -⟩ := hpost
    go_wp2_with fail
    (try go_ret)
    exact hp2
   have hr := HR.out
   rw [if_neg h4] at hr
   replace HR := Lib.hid hr
   have d4 : (p.f0 == 4) = false := beq_eq_false_iff_ne.2 h4
   clear hr h4
   by_cases h5 : p.f0 = 5
   ·
    have hr := HR.out
    rw [if_pos h5] at hr
    have HV := Aside0.mk hr
    have HSET := Aside0.mk (unset_is base g _ b n c L ns r nx x p wc HD4.out hLn HX.out HAT.out.1 HAT.out.2 hle4)
    have dd := beq_iff_eq.2 h5
    clear hr HR h5
    go_wp2_with fail
    refine HSET.out.mono ?_
    rintro e w5 hpost
    have hp2 := HFROM.out _ _ _ (Post.same HGL4.out HD4.out.away hpost)
    rw [HV.out, HP.out] at hp2
    obtain ⟨rfl, -, -⟩ := hpost
    go_wp2_with fail
    (try go_ret)
    exact hp2
   have hr := HR.out
   rw [if_neg h5] at hr
   have HV := Aside0.mk hr
   have d5 : (p.f0 == 5) = false := beq_eq_false_iff_ne.2 h5
   have HSET := Aside0.mk (write_is base g _ b n c L ns r nx x p wc HD4.out hLn HX.out)
   clear hr HR h5
   go_wp2_with fail
   refine HSET.out.mono ?_
   rintro e w5 hpost
   have hp2 := HFROM.out _ _ _ (Post.same HGL4.out HD4.out.away hpost)
   rw [HV.out, HP.out] at hp2
   obtain ⟨rfl, -, -⟩ := hpost
   go_wp2_with fail
   (try go_ret)
   exact hp2
 ·
  have hr := HR.out
  rw [if_pos hk] at hr
  have e3 : ¬ p.f0 = 3 := fun h => hk (.inl h)
  have e4 : ¬ p.f0 = 4 := fun h => hk (.inr (.inl h))
  have e5 : ¬ p.f0 = 5 := fun h => hk (.inr (.inr (.inl h)))
  have e6 : ¬ p.f0 = 6 := fun h => hk (.inr (.inr (.inr h)))
  have d3 : (p.f0 == 3) = false := beq_eq_false_iff_ne.2 e3
  have d4 : (p.f0 == 4) = false := beq_eq_false_iff_ne.2 e4
  have d5 : (p.f0 == 5) = false := beq_eq_false_iff_ne.2 e5
  have d6 : (p.f0 == 6) = false := beq_eq_false_iff_ne.2 e6
  have HFIN : Aside0 (Post w base g ok R (.returned (.int .i64 22)) W1) := ⟨by rw [← hr]; exact ⟨_, rfl, HD.out.errN HB1.out, Chg.of_below HB1.out _⟩⟩
  clear hr hk e3 e4 e5 e6 HR
  go_wp2_with fail
  (try go_ret)
  rw [← HP.out]
  exact HFIN.out
end Go.Proofs.Ytleofbidijbahaa.D
