import Derived.Test.YtleofbidijbahaaYD0
import Derived.Test.YtleofbidijbahaaYD5
import Derived.Test.YtleofbidijbahaaYD19
import Derived.Test.YtleofbidijbahaaYD17
import Derived.Test.YtleofbidijbahaaYD22
import Derived.Test.YtleofbidijbahaaYD24
import Derived.Test.YtleofbidijbahaaYD27
import Derived.Test.YtleofbidijbahaaYD28
namespace Go.Proofs.Ytleofbidijbahaa.D
open Go.RowKit Go.Proofs.YtleofbidijbahaaW.PrintWords Go.Proofs.YtleofbidijbahaaW.PrintLast Go.Proofs.YtleofbidijbahaaW.PrintMore
attribute [local go_sem] max2_int min2_int max_two min_two max_three min_three max_four min_four   -- for this text's walks alone
set_option linter.unusedVariables false
set_option linter.unusedSimpArgs false
def others (x y : S63) (pid : Int) : Int := if x.f1 = pid then (y.f6.length : Int) - 1 else y.f6.length
def hungF (ns : List S63) (L1 L2 : Nat) (at_ id pid : Int) : List S63 :=
 let ns1 := offF ns L1
 let y := rd_T63 ns1 (L2 : Int)
 let ns2 := ns1.set L2 { y with f6 := y.f6.take at_.toNat ++ id :: y.f6.drop at_.toNat }
 ns2.set L1 { rd_T63 ns2 (L1 : Int) with f1 := pid }
def hangE (s : S28) (p : S45) : Int × S28 :=
 match nodeOf s.f0 p.f1, nodeOf s.f0 p.f2 with
 | some x, some y =>
  if y.f2.toList.isEmpty = true then (81, s) else
  if upF s.f0 p.f1 (s.f0.length + 1) p.f2 = true then (72, s) else
  if s.f1 = p.f1 then (9, s) else
  if p.f3 < 0 ∨ others x y p.f2 < p.f3 then (82, s) else
  if 32 ≤ others x y p.f2 then (3, s) else
  (0, ⟨hungF s.f0 (lowP s.f0 p.f1) (lowP s.f0 p.f2) p.f3 p.f1 p.f2, s.f1, s.f2⟩)
 | _, _ => (71, s)
theorem Disp.form {W : World} {base g n c : Nat} {ok : Nat → Prop} {A : Option Addr} {ns : List S63} {r nx : Int} (h : Disp W base g ok (.slice A n c) ns r nx) (hn : 0 < n) : ∃ b, A = some ⟨b, 0, none⟩ := by
 have h1 := h.sees.len
 subst h1
 obtain ⟨b5, cap5, ee, -⟩ := Kd.R_form (Kd.S_R h.row) hn
 injection ee with e1
 exact ⟨b5, e1⟩
set_option maxRecDepth 100000 in
set_option maxHeartbeats 8000000 in
theorem hang_is (base g : Nat) (ok : Nat → Prop) (v : Value) (ns : List S63) (r nx : Int) (p : S45) (w : World) (hD : Disp w base g ok v ns r nx)
  (hfit : ∀ x y, nodeOf ns p.f1 = some x → nodeOf ns p.f2 = some y → 0 ≤ p.f3 → p.f3 ≤ others x y p.f2 → p.f3.toNat ≤ (rd_T63 (offF ns (lowP ns p.f1)) (lowP ns p.f2 : Int)).f6.length ∧ (rd_T63 (offF ns (lowP ns p.f1)) (lowP ns p.f2 : Int)).f6.length < 1000000000) (hbase : base ≤ w.heap.size) :
  Calls Try.prog 65 #[.pointer (some ⟨g, 0, none⟩), patchV p] w (Post w base g ok (hangE ⟨ns, r, nx⟩ p)) := by
 obtain ⟨A, c, rfl⟩ := hD.slice_
 obtain ⟨n, hn⟩ : ∃ n, ns.length = n := ⟨_, rfl⟩
 rw [hn] at hD
 obtain ⟨W1, hW1⟩ : ∃ W, w.alloc (.cells #[.int .i64 p.f0, .int .i64 p.f1, .int .i64 p.f2, .int .i64 p.f3, .string p.f4, .string p.f5, .string p.f6, .string p.f7, .string p.f8] 45) = W := ⟨_, rfl⟩
 have hb1 : Below w.heap.size w W1 := by rw [← hW1]; exact (Below.refl _ _).alloc (Nat.le_refl _) _
 have hx1 : PBox W1 w.heap.size p := by rw [← hW1]; exact World.alloc_heap_new w _
 have hD1 := hD.bound.below hb1
 obtain ⟨id, hid⟩ : ∃ id, p.f1 = id := ⟨_, rfl⟩
 obtain ⟨pid, hto⟩ : ∃ id, p.f2 = id := ⟨_, rfl⟩
 obtain ⟨at_, hat⟩ : ∃ id, p.f3 = id := ⟨_, rfl⟩
 have y1 : W1.cell? ⟨w.heap.size, 1, none⟩ = some (.int .i64 id) := by rw [← hid]; exact blk_cell hx1 1
 have y2 : W1.cell? ⟨w.heap.size, 2, none⟩ = some (.int .i64 pid) := by rw [← hto]; exact blk_cell hx1 2
 have HD := Aside0.mk hD
 have HD1 := Aside0.mk hD1
 have HX1 := Aside0.mk hx1
 have HB1 := Aside0.mk hb1
 obtain ⟨R, hR⟩ : ∃ R, hangE ⟨ns, r, nx⟩ p = R := ⟨_, rfl⟩
 rw [hR]
 unfold hangE at hR
 rw [hid, hto, hat] at hR hfit
 simp only [hn] at hR
 have HFIT := Aside0.mk hfit
 have HR := Lib.hid hR
 have HN := Lib.hid hn
 have HID := Lib.hid hid
 have HTO := Lib.hid hto
 have HAT := Lib.hid hat
 have HBASE := Aside0.mk hbase
 obtain ⟨P, hP⟩ : ∃ P, Post w base g ok R = P := ⟨_, rfl⟩
 have HP := Aside0.mk hP
 rw [hP]
 obtain ⟨V1, hV1⟩ : ∃ V, findV A ns id = V := ⟨_, rfl⟩
 obtain ⟨V2, hV2⟩ : ∃ V, findV A ns pid = V := ⟨_, rfl⟩
 have HF1 : Aside0 (∀ W, Below W1.heap.size W1 W → Calls Try.prog 49 #[.pointer (some ⟨g, 0, none⟩), .int .i64 id] W fun e w' => e = .returned V1 ∧ Below W.heap.size W w') := ⟨fun W hW => by rw [← hV1]; exact (HD1.out.below hW).sees.find id⟩
 have HF2 : Aside0 (∀ W, Below W1.heap.size W1 W → Calls Try.prog 49 #[.pointer (some ⟨g, 0, none⟩), .int .i64 pid] W fun e w' => e = .returned V2 ∧ Below W.heap.size W w') := ⟨fun W hW => by rw [← hV2]; exact (HD1.out.below hW).sees.find pid⟩
 have HV1 := Lib.hid hV1
 have HV2 := Lib.hid hV2
 clear hb1 hx1 hD1 hD hR hn hid hP hbase hfit hto hat hV1 hV2
 go_enter Try.func65, Try.ntmps65
 go_wp2_with fail
 have HBW : Aside0 (Below W1.heap.size W1 W1.drew) := ⟨below_drew1 (Below.refl _ _)⟩
 go_region_held3 (fun w' => w'.cell? ⟨w.heap.size, 1, none⟩ = some (.int .i64 id) ∧ w'.cell? ⟨w.heap.size, 2, none⟩ = some (.int .i64 pid)) (first | exact ⟨pw_cell_below HBB.out y1, pw_cell_below HBB.out y2⟩ | exact ⟨pw_cell_below HBA.out y1, pw_cell_below HBA.out y2⟩ | exact ⟨y1, y2⟩ | go_keep) (first | (go_at_call 49; refine (HF2.out _ HBA.out).mono ?_; rintro e wB ⟨rfl, hbB⟩; have HBB := Aside0.mk (HBA.out.trans (hbB.mono HBA.out.size)); clear hbB) | (go_at_call 49; refine (HF1.out _ HBW.out).mono ?_; rintro e wA ⟨rfl, hbA⟩; have HBA := Aside0.mk (HBW.out.trans (hbA.mono HBW.out.size)); clear hbA))
 have hb2 : Below W1.heap.size W1 wB := HBB.out
 have HB2 := Aside0.mk (HB1.out.trans (hb2.mono HB1.out.size))
 have HD2 := Aside0.mk (HD1.out.below hb2)
 have HX2 : Aside0 (PBox wB w.heap.size p) := ⟨(hb2.block _ (blk_lt HX1.out)).trans HX1.out⟩
 replace y1 := pw_cell_below hb2 y1
 replace y2 := pw_cell_below hb2 y2
 clear HBA HBB HBW
 clear hb2 hW1 HB1 HD1 HX1 HF1 HF2
 have HERR : Aside0 (∀ z, Post w base g ok (z, ⟨ns, r, nx⟩) (.returned (.int .i64 z)) wB) := ⟨fun z => ⟨_, rfl, HD.out.errN HB2.out, Chg.of_below HB2.out _⟩⟩
 have hr := HR.out
 have hv1 := HV1.out
 have hv2 := HV2.out
 cases hno1 : nodeOf ns id with
 | none =>
  rw [findV_none hno1] at hv1
  subst hv1
  have HV : Aside0 (R = (71, ⟨ns, r, nx⟩)) := ⟨by rw [← hr, hno1]⟩
  clear hr hv2 HR hno1
  go_wp2_with fail
  (try go_ret)
  rw [← HP.out, HV.out]
  exact HERR.out 71
 | some x =>
  obtain ⟨hL1, hx, hxid⟩ := nodeOf_some hno1
  obtain ⟨b, rfl⟩ := HD.out.form (by have := HN.out; omega)
  rw [findV_own hno1] at hv1
  obtain ⟨L1, hLe1⟩ : ∃ L, lowP ns id = L := ⟨_, rfl⟩
  rw [hLe1] at hv1 hL1 hx
  subst hv1
  cases hno2 : nodeOf ns pid with
  | none =>
   rw [findV_none hno2] at hv2
   subst hv2
   have HV : Aside0 (R = (71, ⟨ns, r, nx⟩)) := ⟨by rw [← hr, hno1, hno2]⟩
   clear hr HR hno1 hno2 hx hxid
   go_wp2_with fail
   (try go_ret)
   rw [← HP.out, HV.out]
   exact HERR.out 71
  | some y =>
   obtain ⟨hL2, hy, hyid⟩ := nodeOf_some hno2
   rw [findV_own hno2] at hv2
   obtain ⟨L2, hLe2⟩ : ∃ L, lowP ns pid = L := ⟨_, rfl⟩
   rw [hLe2] at hv2 hL2 hy
   subst hv2
   have hfit := HFIT.out x y hno1 hno2
   rw [hLe1, hLe2] at hfit
   rw [hno1, hno2] at hr
   simp only [hLe1, hLe2] at hr
   have HFIT2 := Aside0.mk hfit
   have HR2 := Lib.hid hr
   have hL1n : L1 < n := by have := HN.out; omega
   have hL2n : L2 < n := by have := HN.out; omega
   have hd2 := HD2.out
   obtain ⟨-, -, -, -, -, -, -, -, -, -, -, -, e22, -⟩ := hd2.elem L2 hL2n y hy
   have HX := Lib.hid hx
   have HY := Lib.hid hy
   have HSEE := Aside0.mk (hd2.sees)
   obtain ⟨q, hq⟩ : ∃ q, y.f2.toList.isEmpty = q := ⟨_, rfl⟩
   rw [hq] at HR2
   obtain ⟨t2, ht2⟩ : ∃ q, y.f2 = q := ⟨_, rfl⟩
   rw [ht2] at e22 hq
   clear hr HR hfit hno1 hno2 hx hxid hy hyid hd2 ht2 HFIT
   cases q with
   | true =>
    have HV : Aside0 (R = (81, ⟨ns, r, nx⟩)) := ⟨by rw [← HR2.out, if_pos rfl]⟩
    go_wp2_with fail
    (try go_ret)
    rw [← HP.out, HV.out]
    exact HERR.out 81
   | false =>
    have hr := HR2.out
    rw [if_neg (by decide)] at hr
    have HR3 := Lib.hid hr
    clear hr HR2
    go_wp2_with fail
    refine (HSEE.out.up pid id).mono ?_
    rintro e w3 ⟨rfl, hb3⟩
    have HB3 := Aside0.mk (HB2.out.trans (hb3.mono HB2.out.size))
    have hD3 := HD2.out.below hb3
    have HD3 := Aside0.mk hD3
    have HX3 : Aside0 (PBox w3 w.heap.size p) := ⟨(hb3.block _ (blk_lt HX2.out)).trans HX2.out⟩
    have hbx := hD3.box
    have g1 : w3.cell? ⟨g, 1, none⟩ = some (.int .i64 r) := blk_cell hbx 1
    have y1 := pw_cell_below hb3 y1
    have y2 := pw_cell_below hb3 y2
    have y3 : w3.cell? ⟨w.heap.size, 3, none⟩ = some (.int .i64 at_) := by rw [← HAT.out]; exact blk_cell HX3.out 3
    have HERR : Aside0 (∀ z, Post w base g ok (z, ⟨ns, r, nx⟩) (.returned (.int .i64 z)) w3) := ⟨fun z => ⟨_, rfl, HD.out.errN HB3.out, Chg.of_below HB3.out _⟩⟩
    obtain ⟨u, hu⟩ : ∃ u, upF ns id (n + 1) pid = u := ⟨_, rfl⟩
    rw [hu]
    have hr := HR3.out
    rw [hu] at hr
    clear hb3 HSEE HD2 HX2 HB2 hbx hD3 e22 hu HR3
    cases u with
    | true =>
     have HV : Aside0 (R = (72, ⟨ns, r, nx⟩)) := ⟨by rw [← hr, if_pos rfl]⟩
     clear hr
     go_wp2_with fail
     (try go_ret)
     rw [← HP.out, HV.out]
     exact HERR.out 72
    | false =>
     rw [if_neg (by decide)] at hr
     have HR4 := Lib.hid hr
     clear hr
     go_wp2_with fail
     go_quiet (fail)
     obtain ⟨w4, hw4⟩ : ∃ W, w3.drewN nq = W := ⟨_, rfl⟩
     have hb4 : Below w3.heap.size w3 w4 := by rw [← hw4]; exact pw_below_drewN (Below.refl _ _) _
     rw [hw4]
     have HB4 := Aside0.mk (HB3.out.trans (hb4.mono HB3.out.size))
     have hD4 := HD3.out.below hb4
     have HD4 := Aside0.mk hD4
     have HX4 : Aside0 (PBox w4 w.heap.size p) := ⟨(hb4.block _ (blk_lt HX3.out)).trans HX3.out⟩
     have HERR : Aside0 (∀ z, Post w base g ok (z, ⟨ns, r, nx⟩) (.returned (.int .i64 z)) w4) := ⟨fun z => ⟨_, rfl, HD.out.errN HB4.out, Chg.of_below HB4.out _⟩⟩
     replace y1 := pw_cell_below hb4 y1
     replace y2 := pw_cell_below hb4 y2
     replace y3 := pw_cell_below hb4 y3
     by_cases hri : r = id
     ·
      have HV : Aside0 (R = (9, ⟨ns, r, nx⟩)) := ⟨by rw [← HR4.out, if_pos hri]⟩
      have dri : (r == id) = true := beq_iff_eq.2 hri
      clear hb4 hD4 hw4 g1
      go_wp2_with fail
      (try go_ret)
      rw [← HP.out, HV.out]
      exact HERR.out 9
     ·
      have dri : (r == id) = false := beq_eq_false_iff_ne.2 hri
      have hr := HR4.out
      rw [if_neg hri] at hr
      have HR5 := Lib.hid hr
      obtain ⟨-, -, -, -, -, -, -, -, -, -, -, f11, -⟩ := hD4.elem L1 hL1n x HX.out
      obtain ⟨ok2, B5, d5, B6, d6, hH2, h52, h62, hoki2, hfr2, e20, e21, e22, e23, e24, e25, e26⟩ := hD4.elem L2 hL2n y HY.out
      have hlen6 := (Kd.R_reads' h62).2.2.2.1
      obtain ⟨m6, hm6⟩ : ∃ m, y.f6.length = m := ⟨_, rfl⟩
      rw [hm6] at e26 hlen6
      have HM6 := Lib.hid hm6
      obtain ⟨x1, hx1⟩ : ∃ q, x.f1 = q := ⟨_, rfl⟩
      rw [hx1] at f11
      have HX1 := Lib.hid hx1
      clear hr HR4 hb4 hD4 hw4 g1 hH2 h52 h62 hoki2 hfr2 e20 e21 e22 e23 e24 e25 hm6 hx1 HB3 HD3 HX3
      go_wp2_with fail
      go_quiet (fail)
      have hb5 : Below w4.heap.size w4 (w4.drewN nq) := pw_below_drewN (Below.refl _ _) _
      have HB5 := Aside0.mk (HB4.out.trans (hb5.mono HB4.out.size))
      have HD5 := Aside0.mk (HD4.out.below hb5)
      have HX5 : Aside0 (PBox (w4.drewN nq) w.heap.size p) := ⟨(hb5.block _ (blk_lt HX4.out)).trans HX4.out⟩
      replace y1 := pw_cell_below hb5 y1
      replace y2 := pw_cell_below hb5 y2
      replace y3 := pw_cell_below hb5 y3
      obtain ⟨w5, hw5⟩ : ∃ W, w4.drewN nq = W := ⟨_, rfl⟩
      rw [hw5] at HB5 HD5 HX5 y1 y2 y3 ⊢
      clear hb5 hw5 HB4 HD4 HX4 HERR f11 e26
      go_upto_if 55 with fail
      obtain ⟨ot, hot⟩ : ∃ o, others x y pid = o := ⟨_, rfl⟩
      have HOT := Lib.hid hot
      have hot2 : ot = if x1 = pid then (m6 : Int) - 1 else m6 := by rw [← hot, ← HX1.out, ← HM6.out]; rfl
      have hwm : IntKind.i64.wrap ((m6 : Int) - 1) = (m6 : Int) - 1 := by rw [IntKind.wrap_i64]; omega
      clear hot
      go_cut [7] (fun s7 wx => s7 = .int .i64 ot ∧ w5 = wx)
      case first =>
       by_cases hxp : x1 = pid
       ·
        have dxp : (x1 == pid) = true := beq_iff_eq.2 hxp
        rw [if_pos hxp] at hot2
        subst hot2
        go_wp2_with fail
        go_meet
        exact ⟨rfl, rfl⟩
       ·
        have dxp : (x1 == pid) = false := beq_eq_false_iff_ne.2 hxp
        rw [if_neg hxp] at hot2
        subst hot2
        go_wp2_with fail
        go_meet
        exact ⟨rfl, rfl⟩
      case rest =>
       obtain ⟨rfl, rfl⟩ := hcut
       have hr := HR5.out
       rw [HOT.out] at hr
       have hfit := HFIT2.out
       rw [HOT.out] at hfit
       clear HR5 HFIT2 hot2 hwm dri hri HX1 
       have HERR : Aside0 (∀ z, Post w base g ok (z, ⟨ns, r, nx⟩) (.returned (.int .i64 z)) w5) := ⟨fun z => ⟨_, rfl, HD.out.errN HB5.out, Chg.of_below HB5.out _⟩⟩
       by_cases h1 : at_ < 0 ∨ ot < at_
       ·
        have HV : Aside0 (R = (82, ⟨ns, r, nx⟩)) := ⟨by rw [← hr, if_pos h1]⟩
        clear hfit hr
        by_cases h2 : at_ < 0
        ·
         have d1 : decide (at_ < 0) = true := decide_eq_true h2
         go_wp2_with fail
         (try go_ret)
         rw [← HP.out, HV.out]
         exact HERR.out 82
        ·
         have d1 : decide (at_ < 0) = false := decide_eq_false h2
         have d2 : decide (at_ > ot) = true := decide_eq_true (by omega)
         go_wp2_with fail
         (try go_ret)
         rw [← HP.out, HV.out]
         exact HERR.out 82
       ·
        have d1 : decide (at_ < 0) = false := decide_eq_false (by omega)
        have d2 : decide (at_ > ot) = false := decide_eq_false (by omega)
        rw [if_neg h1] at hr
        by_cases h3 : 32 ≤ ot
        ·
         have HV : Aside0 (R = (3, ⟨ns, r, nx⟩)) := ⟨by rw [← hr, if_pos h3]⟩
         have d3 : decide (ot ≥ 32) = true := decide_eq_true h3
         clear hfit hr
         go_wp2_with fail
         (try go_ret)
         rw [← HP.out, HV.out]
         exact HERR.out 3
        ·
         have d3 : decide (ot ≥ 32) = false := decide_eq_false h3
         have HV : Aside0 (R = (0, ⟨hungF ns L1 L2 at_ id pid, r, nx⟩)) := ⟨by rw [← hr, if_neg h3]⟩
         have HFIT := Aside0.mk (hfit (by omega) (by omega))
         have HOFF := Aside0.mk (off_is base g _ b n c L1 ns r nx w5 HD5.out hL1n)
         obtain ⟨a, rfl⟩ : ∃ a : Nat, at_ = a := ⟨at_.toNat, by omega⟩
         clear hfit hr HERR
         go_wp2_with fail
         refine HOFF.out.mono ?_
         rintro e w6 ⟨rfl, hD6, hc6⟩
         have hle6 : w.heap.size ≤ w6.heap.size := Nat.le_trans HB5.out.size hc6.size
         have hx6 : PBox w6 w.heap.size p := hc6.blk HX5.out (fun hk => by have := hk.2; omega)
         have y1 : w6.cell? ⟨w.heap.size, 1, none⟩ = some (.int .i64 id) := by rw [← HID.out]; exact blk_cell hx6 1
         have y2 : w6.cell? ⟨w.heap.size, 2, none⟩ = some (.int .i64 pid) := by rw [← HTO.out]; exact blk_cell hx6 2
         have y3 : w6.cell? ⟨w.heap.size, 3, none⟩ = some (.int .i64 (a : Int)) := by rw [← HAT.out]; exact blk_cell hx6 3
         have HC6 : Aside0 (Chg w w6 ok) := ⟨(Chg.of_below HB5.out ok).then_ hc6 (fun k hk => .inl hk.1)⟩
         obtain ⟨ns1, hns1⟩ : ∃ l, offF ns L1 = l := ⟨_, rfl⟩
         have hfit := HFIT.out
         rw [hns1] at hD6 hfit
         obtain ⟨y', hy'⟩ : ∃ z, rd_T63 ns1 (L2 : Int) = z := ⟨_, rfl⟩
         rw [hy'] at hfit
         have hfit1 : a ≤ y'.f6.length := by have := hfit.1; omega
         have hfit2 := hfit.2
         have HV2 : Aside0 (hungF ns L1 L2 (a : Int) id pid = (ns1.set L2 { y' with f6 := y'.f6.take a ++ id :: y'.f6.drop a }).set L1 { rd_T63 (ns1.set L2 { y' with f6 := y'.f6.take a ++ id :: y'.f6.drop a }) (L1 : Int) with f1 := pid }) := ⟨by unfold hungF; simp only [hns1, hy', Int.toNat_natCast]⟩
         obtain ⟨oki, C5, e5, C6, e6, hH, h5, h6, hoki, hfr, -, -, -, -, -, -, f6⟩ := hD6.elem L2 hL2n y' hy'
         have hbn : some b ≠ (Value.slice C6 y'.f6.length e6).ownBlock := fun he => (hoki b (h6.1 b he.symm)).2 rfl
         have hpn : some w.heap.size ≠ (Value.slice C6 y'.f6.length e6).ownBlock := fun he => by have := (hoki _ (h6.1 _ he.symm)).1.2; omega
         have HINS : Aside0 (∀ W, Below w6.heap.size w6 W → W.heap[w6.heap.size]? = some (.cells #[.int .i64 id] 3 (0, 0)) → Calls Try.prog 90 #[.slice C6 y'.f6.length e6, .int .i64 a, .slice (some ⟨w6.heap.size, 0, none⟩) 1 1] W fun e w' => ∃ v', e = .returned v' ∧ Kd.R (Kd.int .i64) 3 w' base (fun k => oki k ∨ (W.heap.size ≤ k ∧ k < w'.heap.size)) v' (y'.f6.take a ++ id :: y'.f6.drop a) ∧ W.grownBy w' (Value.slice C6 y'.f6.length e6).ownBlock) :=
          ⟨fun W hW hb => insI_is (.slice C6 y'.f6.length e6) y'.f6 a id w6.heap.size base oki W (Kd.R_below h6 hW) hb (fun he => by have := Kd.R_lt h6 _ he.symm; omega) hfit1 hfit2 (by have := HBASE.out; have := hW.size; omega)⟩
         obtain ⟨m7, hm7⟩ : ∃ m, y'.f6.length = m := ⟨_, rfl⟩
         rw [hm7] at f6 HINS hbn hpn
         have HH := Aside0.mk hH
         have H5 := Aside0.mk h5
         have H6 := Aside0.mk h6
         have HOKI := Aside0.mk hoki
         have HM7 := Lib.hid hm7
         have HD6 := Aside0.mk hD6
         have HX6 := Aside0.mk hx6
         have HBT : Aside0 (∃ cs, w6.heap[b]? = some (.cells cs 63 (0, 0))) := ⟨Kd.S_typed hD6.row b (by simp [Value.ownBlock])⟩
         have HBN := Aside0.mk hbn
         have HPN := Aside0.mk hpn
         have HY' := Lib.hid hy'
         obtain ⟨m8, hm8⟩ : ∃ m, (y'.f6.take a ++ id :: y'.f6.drop a).length = m := ⟨_, rfl⟩
         have HM8 := Lib.hid hm8
         have HBLT := Aside0.mk (blk_lt hD6.box)
         have HOKB := Aside0.mk hD6.okb
         clear hc6 hD6 hx6 hfit hfit1 hfit2 hH h5 h6 hoki hfr hbn hpn hm7 hm8 hy' hns1 HX5 HD5 HB5 HOFF HFIT
         go_upto_region 18 with (fail)
         go_cut [] (fun wx => Disp wx base g (fun k => ok k ∨ (w.heap.size ≤ k ∧ k < wx.heap.size)) (.slice (some ⟨b, 0, none⟩) n c) (ns1.set L2 { y' with f6 := y'.f6.take a ++ id :: y'.f6.drop a }) r nx ∧ Chg w wx ok ∧ PBox wx w.heap.size p)
         case first =>
          have HBD : Aside0 (Below w6.heap.size w6 w6.drew) := ⟨below_drew1 (Below.refl _ _)⟩
          refine start_ (n := 14) (S := fun w' => w'.cell? ⟨b, L2 * 7 + 6, none⟩ = some (.slice C6 m7 e6) ∧ w'.cell? ⟨w.heap.size, 3, none⟩ = some (.int .i64 (a : Int)) ∧ w'.cell? ⟨w.heap.size, 1, none⟩ = some (.int .i64 id)) (ds := [13]) (bs 14 0) (by kernel_rfl) rfl (by kernel_rfl) ⟨f6, y3, y1⟩ (fun hHeld => ?_)
          (refine pure_ (i := 0) (N := (some 74)) (v := ?_) (a' := ?_) (bs 14 1) rfl rfl (by kernel_rfl) (fun _ _ _ h => h) (Or.inl ⟨by rfl, ?_⟩) ?_ ?_; rotate_left; (intro w'; go_simp; with_reducible rfl); rotate_left; (simp only [Act.put, List.setIfInBounds_toArray, List.set_cons_zero, List.set_cons_succ, i64_w, i32_w]; rfl))
          (refine pure_ (i := 1) (N := (some 75)) (v := ?_) (a' := ?_) (bs 14 2) rfl rfl (by kernel_rfl) (fun _ _ _ h => h) (Or.inl ⟨by rfl, ?_⟩) ?_ ?_; rotate_left; (intro w'; go_simp; with_reducible rfl); rotate_left; (simp only [Act.put, List.setIfInBounds_toArray, List.set_cons_zero, List.set_cons_succ, i64_w, i32_w]; rfl))
          (refine pure_ (i := 2) (N := (some 76)) (v := ?_) (a' := ?_) (bs 14 3) rfl rfl (by kernel_rfl) (fun _ _ _ h => h) (Or.inl ⟨by rfl, ?_⟩) ?_ ?_; rotate_left; (intro w'; go_simp; with_reducible rfl); rotate_left; (simp only [Act.put, List.setIfInBounds_toArray, List.set_cons_zero, List.set_cons_succ, i64_w, i32_w]; rfl))
          (refine pure_ (i := 3) (N := (some 77)) (v := ?_) (a' := ?_) (bs 14 4) rfl rfl (by kernel_rfl) (fun _ _ _ h => h) (Or.inl ⟨by rfl, ?_⟩) ?_ ?_; rotate_left; (intro w'; go_simp; with_reducible rfl); rotate_left; (simp only [Act.put, List.setIfInBounds_toArray, List.set_cons_zero, List.set_cons_succ, i64_w, i32_w]; rfl))
          (refine take_ (i := 4) (N := (some 78)) (v := ?_) (a' := ?_) (bs 14 5) rfl rfl (by kernel_rfl) (fun _ _ _ h => h) (Or.inl ⟨by rfl, ?_⟩) hHeld ?_ ?_; rotate_left; (rintro w' ⟨s6, s3, s1⟩; go_simp; with_reducible rfl); rotate_left; (simp only [Act.put, List.setIfInBounds_toArray, List.set_cons_zero, List.set_cons_succ, i64_w, i32_w]; rfl))
          (refine pure_ (i := 5) (N := (some 79)) (v := ?_) (a' := ?_) (bs 14 6) rfl rfl (by kernel_rfl) (fun _ _ _ h => h) (Or.inl ⟨by rfl, ?_⟩) ?_ ?_; rotate_left; (intro w'; go_simp; with_reducible rfl); rotate_left; (simp only [Act.put, List.setIfInBounds_toArray, List.set_cons_zero, List.set_cons_succ, i64_w, i32_w]; rfl))
          (refine take_ (i := 6) (N := (some 80)) (v := ?_) (a' := ?_) (bs 14 7) rfl rfl (by kernel_rfl) (fun _ _ _ h => h) (Or.inl ⟨by rfl, ?_⟩) hHeld ?_ ?_; rotate_left; (rintro w' ⟨s6, s3, s1⟩; go_simp; with_reducible rfl); rotate_left; (simp only [Act.put, List.setIfInBounds_toArray, List.set_cons_zero, List.set_cons_succ, i64_w, i32_w]; rfl))
          (refine pure_ (i := 7) (N := (some 81)) (v := ?_) (a' := ?_) (bs 14 8) rfl rfl (by kernel_rfl) (fun _ _ _ h => h) (Or.inl ⟨by rfl, ?_⟩) ?_ ?_; rotate_left; (intro w'; go_simp; with_reducible rfl); rotate_left; (simp only [Act.put, List.setIfInBounds_toArray, List.set_cons_zero, List.set_cons_succ, i64_w, i32_w]; rfl))
          (refine take_ (i := 8) (N := (some 82)) (v := ?_) (a' := ?_) (bs 14 9) rfl rfl (by kernel_rfl) (fun _ _ _ h => h) (Or.inl ⟨by rfl, ?_⟩) hHeld ?_ ?_; rotate_left; (rintro w' ⟨s6, s3, s1⟩; go_simp; with_reducible rfl); rotate_left; (simp only [Act.put, List.setIfInBounds_toArray, List.set_cons_zero, List.set_cons_succ, i64_w, i32_w]; rfl))
          refine one_ (i := 9) (N := (some 83)) (bs 14 10) rfl rfl (by kernel_rfl) (by decide) (fun K hK => ?_)
          (refine value_ (w1 := ?_) (v := ?_) (by rfl) rfl ?_ ?_; rotate_left 2; (go_simp; constructor; rfl; rfl))
          refine hK.out _ _ ⟨pw_cell_below (below_alloc HBD.out _) f6, pw_cell_below (below_alloc HBD.out _) y3, pw_cell_below (below_alloc HBD.out _) y1⟩ (fun hHeld => ?_)
          clear hK K
          (refine norm_ (a' := ?_) ?_ ?_; rotate_left; (show Act.put _ (some 83) _ = _; (simp only [Act.put, List.setIfInBounds_toArray, List.set_cons_zero, List.set_cons_succ, i64_w, i32_w]; rfl)))
          refine one_ (i := 10) (N := (some 84)) (bs 14 11) rfl rfl (by kernel_rfl) (by decide) (fun K hK => ?_)
          refine goes_ Try.func90 (by kernel_rfl) rfl #[.slice C6 m7 e6, .int .i64 (a : Int), .slice (some ⟨w6.heap.size, 0, none⟩) 1 1] (by rfl) rfl rfl (by (try simp only [List.map_toArray, List.map_cons, List.map_nil]); first | done | rfl) ?_
          refine (HINS.out _ (below_alloc HBD.out _) (World.alloc_heap_new _ _)).mono ?_
          rintro e wC ⟨v', rfl, hRC, hgC⟩
          obtain ⟨AC, cC, rfl⟩ := Kd.R_slice hRC
          rw [HM8.out] at hRC ⊢
          refine ⟨_, rfl, ?_⟩
          have hgw := World.grownBy.trans (grown_of_below (below_alloc HBD.out (.cells #[.int .i64 id] 3)) (Value.slice C6 m7 e6).ownBlock) hgC
          have z6 := cell_grown hgw f6 HBN.out
          have z3 := cell_grown hgw y3 HPN.out
          have z1 := cell_grown hgw y1 HPN.out
          have zf : wC.frozen? ⟨b, L2 * 7 + 6, none⟩ = false := (by obtain ⟨cs, hcs⟩ := HBT.out; exact blk_frozen (blk_grown hcs hgw HBN.out) _)
          have hws := hgC.size
          have HRC := Aside0.mk hRC
          have HGW := Aside0.mk hgw
          have HWS := Aside0.mk hws
          clear hRC hgC hgw hws
          refine hK.out _ _ ⟨z6, z3, z1⟩ (fun hHeld => ?_)
          clear hK K
          (refine norm_ (a' := ?_) ?_ ?_; rotate_left; (show Act.put _ (some 84) _ = _; (simp only [Act.put, List.setIfInBounds_toArray, List.set_cons_zero, List.set_cons_succ, i64_w, i32_w]; rfl)))
          (refine pure_ (i := 11) (N := (some 85)) (v := ?_) (a' := ?_) (bs 14 12) rfl rfl (by kernel_rfl) (fun _ _ _ h => h) (Or.inl ⟨by rfl, ?_⟩) ?_ ?_; rotate_left; (intro w'; go_simp; with_reducible rfl); rotate_left; (simp only [Act.put, List.setIfInBounds_toArray, List.set_cons_zero, List.set_cons_succ, i64_w, i32_w]; rfl))
          (refine pure_ (i := 12) (N := (some 86)) (v := ?_) (a' := ?_) (bs 14 13) rfl rfl (by kernel_rfl) (fun _ _ _ h => h) (Or.inl ⟨by rfl, ?_⟩) ?_ ?_; rotate_left; (intro w'; go_simp; with_reducible rfl); rotate_left; (simp only [Act.put, List.setIfInBounds_toArray, List.set_cons_zero, List.set_cons_succ, i64_w, i32_w]; rfl))
          refine last_ (i := 13) (N := none) (bs 14 14) rfl rfl (by kernel_rfl) (by decide) (fun K hK => ?_)
          (refine skip_ (w1 := ?_) (by rfl) rfl ?_ ?_; rotate_left; (go_simp; rfl))
          refine hK.out _ _ ?_
          clear hK K
          refine done_ (by kernel_rfl) ?_
          have hgw := HGW.out
          have hws := HWS.out
          have hRC := HRC.out
          have hrow : ∀ k, (Value.slice C6 m7 e6).ownBlock = some k → oki k := fun k hk => H6.out.1 k (by rw [HM7.out]; exact hk)
          have hws3 : w6.heap.size + 1 ≤ wC.heap.size := by simpa using hws
          have hgw7 := hgw
          rw [← HM7.out] at hgw7
          have h53 := Kd.R_over' H5.out (Kd.R_typed H6.out) (by decide) hgw7
          have hH3 := Kd.H_widen (Kd.H_mono HH.out (ok' := fun k => (ok k ∧ k < w.heap.size) ∨ (w6.heap.size ≤ k ∧ k < wC.heap.size)) (fun k hk => .inl hk))
          have hH4 := Kd.H_grown hH3 hgw (fun k hk => .inl (hrow k hk))
          have HD6m : Disp w6 base g (fun k => (ok k ∧ k < w.heap.size) ∨ (w6.heap.size ≤ k ∧ k < wC.heap.size)) (.slice (some ⟨b, 0, none⟩) n c) ns1 r nx := HD6.out.mono (fun k hk => .inl hk) (fun hk => by rcases hk with hk | hk; exact HD.out.away hk.1; have := HBLT.out; omega)
          have hD7 := HD6m.put (j := 6) (seg := [.slice AC m8 cC]) (x' := { y' with f6 := y'.f6.take a ++ id :: y'.f6.drop a }) (hgw.block g HBLT.out (fun he => HD6.out.away (HOKI.out g (hrow g he.symm)).1)) hH4 hL2n (show 6 + 1 ≤ 7 by omega) (k63_mkM wC base (fun k => oki k ∨ ((ok k ∧ k < w.heap.size) ∨ (w6.heap.size ≤ k ∧ k < wC.heap.size)) ∧ w6.heap.size ≤ k) { y' with f6 := y'.f6.take a ++ id :: y'.f6.drop a } (Kd.R_mono h53 (fun k hk => .inl hk)) (Kd.R_mono hRC (fun k hk => by
           rcases hk with hk | hk
           ·
            exact .inl hk
           ·
            have h1 : w6.heap.size + 1 ≤ k := by simpa using hk.1
            exact .inr ⟨.inr ⟨by omega, hk.2⟩, by omega⟩))) (fun k hk => hk) HY'.out rfl
          have hle6 : w.heap.size ≤ w6.heap.size := HC6.out.size
          have HFN : Aside0 (Disp (wC.setCell ⟨b, L2 * 7 + 6, none⟩ (.slice AC m8 cC)) base g (fun k => ok k ∨ (w.heap.size ≤ k ∧ k < (wC.setCell ⟨b, L2 * 7 + 6, none⟩ (.slice AC m8 cC)).heap.size)) (.slice (some ⟨b, 0, none⟩) n c) (ns1.set L2 { y' with f6 := y'.f6.take a ++ id :: y'.f6.drop a }) r nx ∧ Chg w (wC.setCell ⟨b, L2 * 7 + 6, none⟩ (.slice AC m8 cC)) ok ∧ PBox (wC.setCell ⟨b, L2 * 7 + 6, none⟩ (.slice AC m8 cC)) w.heap.size p) := by
           refine ⟨hD7.mono (fun k hk => by rcases hk with hk | hk; exact .inl hk.1; exact .inr ⟨by omega, by simpa [World.setCell] using hk.2⟩) (fun hk => by rcases hk with hk | hk; exact HD.out.away hk; have := blk_lt HD.out.box; omega), (HC6.out.grown hgw (fun k hk => .inl (HOKI.out k (hrow k hk)).1.1)).grown (grown_cell wC b (L2 * 7 + 6) _) (fun k hk => by injection hk with hk; subst hk; exact .inl HOKB.out.1), ?_⟩
           exact blk_far (blk_grown HX6.out hgw HPN.out) (p := ⟨b, L2 * 7 + 6, none⟩) (fun he => by
            have he2 : w.heap.size = b := he
            have := HOKB.out.2
            omega) _
          clear hgw hws hRC hrow hws3 hgw7 h53 hH3 hH4 HD6m hD7
          go_wp2_with fail
          go_meet
          exact HFN.out
         case rest =>
          obtain ⟨hD8, hc8, hx8⟩ := hcut
          have HC8 := Aside0.mk hc8
          have y2 : wc.cell? ⟨w.heap.size, 2, none⟩ = some (.int .i64 pid) := by rw [← HTO.out]; exact blk_cell hx8 2
          obtain ⟨ns2, hns2⟩ : ∃ l, ns1.set L2 { y' with f6 := y'.f6.take a ++ id :: y'.f6.drop a } = l := ⟨_, rfl⟩
          have hv2 := HV2.out
          rw [hns2] at hD8 hv2
          obtain ⟨x2, hx2⟩ : ∃ z, rd_T63 ns2 (L1 : Int) = z := ⟨_, rfl⟩
          rw [hx2] at hv2
          have HV2 := Aside0.mk hv2
          obtain ⟨okz, A5', c5', A6', c6', hHz, h5z, h6z, hokz, hfz4, -, e14, -⟩ := hD8.elem L1 hL1n x2 hx2
          have hf1 := hfz4 1
          have HD9 := Aside0.mk (hD8.put (j := 1) (seg := [.int .i64 pid]) (x' := { x2 with f1 := pid }) rfl hHz hL1n (show 1 + 1 ≤ 7 by omega) (k63_mkM wc base okz { x2 with f1 := pid } h5z h6z) (fun _ h => h) hx2 rfl)
          have HFIN : Aside0 (Post w base g ok (0, ⟨ns2.set L1 { x2 with f1 := pid }, r, nx⟩) (.returned (.int .i64 0)) (wc.setCell ⟨b, L1 * 7 + 1, none⟩ (.int .i64 pid))) := by
           have hd := HD9.out
           rw [nil_cells7] at hd
           have hsz : (wc.setCell ⟨b, L1 * 7 + 1, none⟩ (.int .i64 pid)).heap.size = wc.heap.size := (setCells_same b [.int .i64 pid] (L1 * 7 + 1) wc).2.2.2
           have hd2 : Disp (wc.setCell ⟨b, L1 * 7 + 1, none⟩ (.int .i64 pid)) base g (okN ok w (wc.setCell ⟨b, L1 * 7 + 1, none⟩ (.int .i64 pid))) (.slice (some ⟨b, 0, none⟩) n c) (ns2.set L1 { x2 with f1 := pid }) r nx := hd.mono (fun k hk => by
            rcases hk with hk | hk
            ·
             exact .inl hk
            ·
             exact .inr ⟨hk.1, by rw [hsz]; exact hk.2⟩) (fun hk => by
            rcases hk with hk | hk
            ·
             exact HD.out.away hk
            ·
             have := blk_lt HD.out.box; omega)
           exact ⟨⟨_, rfl, hd2, (HC8.out.mono (fun k hk => .inl hk)).grown (grown_cell wc b (L1 * 7 + 1) _) (fun k hk => by injection hk with hk; subst hk; exact .inl (.inl HOKB.out.1))⟩⟩
          clear hHz h5z h6z hokz hfz4 hD8 hc8 hx8 hns2 hv2 HINS HH H5 H6 HOKI HBT HM7 HM8 HY' HD9
          go_wp2_with fail
          (try go_ret)
          rw [← HP.out, HV.out, HV2.out]
          exact HFIN.out
end Go.Proofs.Ytleofbidijbahaa.D
