import Derived.Test.YtleofbidijbahaaYD0
import Derived.Test.YtleofbidijbahaaYD5
namespace Go.Proofs.Ytleofbidijbahaa.D
open Go.RowKit Go.Proofs.YtleofbidijbahaaW.PrintWords Go.Proofs.YtleofbidijbahaaW.PrintLast Go.Proofs.YtleofbidijbahaaW.PrintMore
attribute [local go_sem] max2_int min2_int max_two min_two max_three min_three max_four min_four   -- for this text's walks alone
set_option linter.unusedVariables false
set_option linter.unusedSimpArgs false
def bad1 (lst : ByteArray) (x : S68) : Bool := (Op.bytesLess x.f0.toList lst.toList || x.f0.toList == lst.toList) || (!lettersB x.f0 || decide (128 < x.f1.size))
def badAttrs : ByteArray → List S68 → Bool
 | _, [] => false
 | lst, x :: xs => bad1 lst x || badAttrs x.f0 xs
def plainB (a0 a1 a2 : ByteArray) (l3 : List S68) : Bool :=
 if a0.toList = [] then decide (a1.toList = []) && (decide (a2.size ≤ 128) && decide (l3.length = 0)) else lettersB a0 && (decide (a1.size ≤ 16) && (decide (a2.toList = []) && (decide (l3.length ≤ 16) && !badAttrs ⟨#[]⟩ l3)))
def tree_Plain.f (a0 a1 a2 : ByteArray) (l3 : List S68) : Option Bool := some (plainB a0 a1 a2 l3)
structure BB (base g : Nat) (w w' : World) : Prop where
 os : w'.os = w.os
 tape : w'.tape = w.tape
 output : w'.output = w.output
 size : w.heap.size ≤ w'.heap.size
 block : ∀ k, k < base → k ≠ g → w'.heap[k]? = w.heap[k]?
theorem BB.refl (base g : Nat) (w : World) : BB base g w w := ⟨rfl, rfl, rfl, Nat.le_refl _, fun _ _ _ => rfl⟩
theorem BB.of_below {base g : Nat} {w w' : World} (h : Below base w w') : BB base g w w' := ⟨h.os, h.tape, h.output, h.size, fun k hk _ => h.block k hk⟩
theorem BB.trans {base g : Nat} {a b c : World} (h : BB base g a b) (k : BB base g b c) : BB base g a c := ⟨k.os.trans h.os, k.tape.trans h.tape, k.output.trans h.output, Nat.le_trans h.size k.size, fun i hi hg => (k.block i hi hg).trans (h.block i hi hg)⟩
theorem BB.mono {base b2 g : Nat} {a b : World} (h : BB base g a b) (hb : b2 ≤ base) : BB b2 g a b := ⟨h.os, h.tape, h.output, h.size, fun i hi hg => h.block i (Nat.lt_of_lt_of_le hi hb) hg⟩
theorem BB.setCell {base g : Nat} {w w' : World} (h : BB base g w w') (j : Nat) (u : Value) : BB base g w (w'.setCell ⟨g, j, none⟩ u) := ⟨h.os, h.tape, h.output, by simpa using h.size, fun k hk hg => (Below.heap_setCell w' ⟨g, j, none⟩ u k hg).trans (h.block k hk hg)⟩
theorem BB.below {base g b : Nat} {w w' : World} (h : BB base g w w') (hb : b ≤ base) (hg : b ≤ g) : Below b w w' := ⟨h.os, h.tape, h.output, h.size, fun k hk => h.block k (by omega) (by omega)⟩
theorem blk_new {W : World} {o : Obj} {k : Nat} (h : W.heap.size = k) : (W.alloc o).heap[k]? = some o := by rw [← h]; exact World.alloc_heap_new W o
set_option maxRecDepth 100000 in
set_option maxHeartbeats 2000000 in
theorem bad1_calls (g : Nat) (lst : ByteArray) (x : S68) (w : World) (hg : w.heap[g]? = some (.cells #[.string lst] 9 (0, 0))) :
  Calls Try.prog 99 #[.agg #[.string x.f0, .string x.f1], .pointer (some ⟨g, 0, none⟩)] w fun e w' => e = .returned (.bool (bad1 lst x)) ∧ w'.heap[g]? = some (.cells #[.string x.f0] 9 (0, 0)) ∧ BB w.heap.size g w w' := by
 have hgl := blk_lt hg
 obtain ⟨W1, hW1⟩ : ∃ W, w.alloc (.cells #[.string x.f0, .string x.f1] 68) = W := ⟨_, rfl⟩
 have hb1 : Below w.heap.size w W1 := by rw [← hW1]; exact below_alloc (Below.refl _ _) _
 have hx1 : W1.heap[w.heap.size]? = some (.cells #[.string x.f0, .string x.f1] 68 (0, 0)) := by rw [← hW1]; exact blk_new rfl
 have hg1 := blk_below hg hb1
 have HG1 := Aside0.mk hg1
 have HX1 := Aside0.mk hx1
 have HB1 := Aside0.mk hb1
 have y0 : W1.cell? ⟨w.heap.size, 0, none⟩ = some (.string x.f0) := blk_cell hx1 0
 have y1 : W1.cell? ⟨w.heap.size, 1, none⟩ = some (.string x.f1) := blk_cell hx1 1
 have z0 : W1.cell? ⟨g, 0, none⟩ = some (.string lst) := blk_cell hg1 0
 have HL := Aside0.mk (fun (W : World) => tree_Letters.calls x.f0 (lettersB x.f0) W rfl)
 obtain ⟨L, hL⟩ : ∃ L, lettersB x.f0 = L := ⟨_, rfl⟩
 rw [hL] at HL
 have HLL := Lib.hid hL
 obtain ⟨q, hq⟩ : ∃ q, (Op.bytesLess x.f0.toList lst.toList || x.f0.toList == lst.toList) = q := ⟨_, rfl⟩
 have hlq : ∀ W : World, (binOp .leq 9 (.string x.f0) (.string lst)).run Try.prog W = .ok (.bool q) W := fun W => by
  rw [← hq]
  simp [binOp, Op.stringOp]
 have HQ := Lib.hid hq
 have z1 : ∀ W : World, Below W1.heap.size W1 W → W.heap[g]? = some (.cells #[.string lst] 9 (0, 0)) := fun W hW => blk_below hg1 hW
 have HZ1 := Aside0.mk z1
 have f0 : W1.frozen? ⟨g, 0, none⟩ = false := blk_frozen hg1 0
 have hsz : w.heap.size < W1.heap.size := blk_lt hx1
 have HXF := Aside0.mk (fun (W : World) (hW : Below W1.heap.size W1 W) => And.intro (blk_put (cs' := #[.string x.f0]) (z1 W hW) 0 (.string x.f0) rfl) ((BB.of_below (g := g) (hb1.trans (hW.mono hb1.size))).setCell 0 (.string x.f0)))
 have HV : Aside0 (bad1 lst x = (q || (!L || decide (128 < x.f1.size)))) := ⟨by unfold bad1; rw [HQ.out, HLL.out]⟩
 clear hb1 hx1 hg1 hL hg hq z1
 cases q with
 | true =>
  have hq9 := HQ.out
  go_enter Try.func99, Try.ntmps99
  go_wp2_with fail
  go_ret
  exact ⟨by rw [HV.out]; rfl, HXF.out _ (Below.refl _ _)⟩
 | false =>
  have hq9 := HQ.out
  cases L with
  | false =>
   go_enter Try.func99, Try.ntmps99
   go_wp2_with fail
   refine (HL.out _).mono ?_
   rintro e w2 ⟨rfl, hb2⟩
   have y0 : w2.cell? ⟨w.heap.size, 0, none⟩ = some (.string x.f0) := blk_cell (blk_below HX1.out hb2) 0
   have z0 : w2.cell? ⟨g, 0, none⟩ = some (.string lst) := blk_cell (HZ1.out _ hb2) 0
   have f0 : w2.frozen? ⟨g, 0, none⟩ = false := blk_frozen (HZ1.out _ hb2) 0
   have HB2 := Aside0.mk hb2
   clear hb2
   go_wp2_with fail
   go_ret
   exact ⟨by rw [HV.out]; rfl, HXF.out _ HB2.out⟩
  | true =>
   obtain ⟨b, hb⟩ : ∃ b, decide (128 < x.f1.size) = b := ⟨_, rfl⟩
   have hd : decide ((x.f1.size : Int) > 128) = b := by rw [← hb]; exact decide_eq_decide.2 (by omega)
   have HD := Lib.hid hb
   clear hb
   go_enter Try.func99, Try.ntmps99
   go_wp2_with fail
   refine (HL.out _).mono ?_
   rintro e w2 ⟨rfl, hb2⟩
   have y0 : w2.cell? ⟨w.heap.size, 0, none⟩ = some (.string x.f0) := blk_cell (blk_below HX1.out hb2) 0
   have y1 : w2.cell? ⟨w.heap.size, 1, none⟩ = some (.string x.f1) := blk_cell (blk_below HX1.out hb2) 1
   have z0 : w2.cell? ⟨g, 0, none⟩ = some (.string lst) := blk_cell (HZ1.out _ hb2) 0
   have f0 : w2.frozen? ⟨g, 0, none⟩ = false := blk_frozen (HZ1.out _ hb2) 0
   have HB2 := Aside0.mk hb2
   clear hb2
   go_wp2_with fail
   go_ret
   exact ⟨by rw [HV.out, HD.out]; rfl, HXF.out _ HB2.out⟩
set_option maxRecDepth 100000 in
set_option maxHeartbeats 2000000 in
theorem indexattrs (g : Nat) (lst0 : ByteArray) (A0 : Option Addr) (c0 : Nat) (l0 : List S68) (w0 w : World) (h0 : w0.heap.size ≤ g) (hr0 : Kd.C k68 w0 A0 l0.length l0) (hb0 : Below w0.heap.size w0 w) (hlen : l0.length ≤ 1048576) (hg : w.heap[g]? = some (.cells #[.string lst0] 9 (0, 0))) :
  Calls Try.prog 120 #[.slice A0 l0.length c0, .func (.func 99) #[] #[.pointer (some ⟨g, 0, none⟩)]] w fun e w' => (∃ i : Int, e = .returned (.int .i64 i) ∧ (0 ≤ i ↔ badAttrs lst0 l0 = true)) ∧ BB w.heap.size g w w' := by
 have hgl := blk_lt hg
 have HR := Aside0.mk hr0
 have HG0 := Aside0.mk hg
 have HB0 := Aside0.mk hb0
 have hsz0 := hb0.size
 obtain ⟨n, hn⟩ : ∃ n, l0.length = n := ⟨_, rfl⟩
 have HN := Lib.hid hn
 have hnb : n ≤ 1048576 := by rw [← hn]; exact hlen
 rw [hn]
 clear hr0 hlen hn hg hb0
 go_enter Try.func120, Try.ntmps120
 go_wp2_with fail
 go_loopw [8] (fun i wr => ∃ k : Nat, k ≤ n ∧ i = .int .i64 k ∧ Aside0 (∃ cur : ByteArray, wr.heap[g]? = some (.cells #[.string cur] 9 (0, 0)) ∧ badAttrs lst0 l0 = badAttrs cur (l0.drop k)) ∧ Aside0 (BB w.heap.size g w wr)) (fun i _ => n - (intOf i).toNat)
 case atStart => exact ⟨0, by omega, rfl, ⟨lst0, HG0.out, rfl⟩, ⟨BB.refl _ _ _⟩⟩
 case round =>
  obtain ⟨k, hk, rfl, HC, HBB⟩ := hrel
  by_cases hlt : k < n
  ·
   obtain ⟨cur, hgc, hbc⟩ := HC.out
   have hbw : Below w0.heap.size w0 wr := HB0.out.trans (HBB.out.below hsz0 h0)
   obtain ⟨ad, rfl, e0, e1⟩ := at_T68 (Kd.C_below HR.out hbw) (k : Int) (by omega) (by have := HN.out; omega)
   simp only [Int.toNat_natCast] at e0 e1
   have hkl : k < l0.length := by have := HN.out; omega
   have hx : rd_T68 l0 (k : Int) = l0[k] := by unfold rd_T68; rw [Int.toNat_natCast, List.getD_eq_getElem?_getD, List.getElem?_eq_getElem hkl, Option.getD_some]
   rw [hx] at e0 e1
   rw [List.drop_eq_getElem_cons hkl, badAttrs] at hbc
   obtain ⟨x, hxe⟩ : ∃ x, l0[k] = x := ⟨_, rfl⟩
   rw [hxe] at e0 e1 hbc
   have hcall := bad1_calls g cur x wr hgc
   obtain ⟨b, hb⟩ : ∃ b, bad1 cur x = b := ⟨_, rfl⟩
   rw [hb] at hcall hbc
   have HCALL := Aside0.mk hcall
   have HBC := Aside0.mk hbc
   clear hcall hbc hb hxe hx hkl hbw hgc HC
   cases b with
   | true =>
    go_wp2_with fail
    refine HCALL.out.mono ?_
    rintro e w2 ⟨rfl, hg2, hb2⟩
    have HB2 := Aside0.mk (HBB.out.trans (hb2.mono HBB.out.size))
    clear hg2 hb2 e0 e1
    go_wp2_with fail
    go_ret
    exact ⟨⟨(k : Int), rfl, ⟨fun _ => by rw [HBC.out]; rfl, fun _ => by omega⟩⟩, HB2.out⟩
   | false =>
    go_wp2_with fail
    refine HCALL.out.mono ?_
    rintro e w2 ⟨rfl, hg2, hb2⟩
    have HB2 := Aside0.mk (HBB.out.trans (hb2.mono HBB.out.size))
    have HG2 : Aside0 (∃ cur : ByteArray, w2.heap[g]? = some (.cells #[.string cur] 9 (0, 0)) ∧ badAttrs lst0 l0 = badAttrs cur (l0.drop (k + 1))) := ⟨x.f0, hg2, by rw [HBC.out]; rfl⟩
    clear hg2 hb2 e0 e1
    go_wp2_with fail
    exact ⟨⟨k + 1, by omega, by go_num, HG2, HB2⟩, by simp [intOf]; omega⟩
  ·
   obtain rfl : k = n := by omega
   have HV : Aside0 (badAttrs lst0 l0 = false) := ⟨by
    obtain ⟨cur, _, h2⟩ := HC.out
    rw [h2, List.drop_of_length_le (by have := HN.out; omega)]
    rfl⟩
   go_wp2_with fail
   go_ret
   exact ⟨⟨-1, rfl, ⟨fun h => by omega, fun h => by rw [HV.out] at h; cases h⟩⟩, HBB.out⟩
theorem anyattrs (g : Nat) (lst0 : ByteArray) (A0 : Option Addr) (c0 : Nat) (l0 : List S68) (w0 w : World) (h0 : w0.heap.size ≤ g) (hr0 : Kd.C k68 w0 A0 l0.length l0) (hb0 : Below w0.heap.size w0 w) (hlen : l0.length ≤ 1048576) (hg : w.heap[g]? = some (.cells #[.string lst0] 9 (0, 0))) :
  Calls Try.prog 98 #[.slice A0 l0.length c0, .func (.func 99) #[] #[.pointer (some ⟨g, 0, none⟩)]] w fun e w' => e = .returned (.bool (badAttrs lst0 l0)) ∧ BB w.heap.size g w w' := by
 have HC := Aside0.mk (indexattrs g lst0 A0 c0 l0 w0 w h0 hr0 hb0 hlen hg)
 obtain ⟨r, hr⟩ : ∃ r, badAttrs lst0 l0 = r := ⟨_, rfl⟩
 rw [hr] at HC ⊢
 clear hr0 hlen hr hg hb0 h0
 go_enter Try.func98, Try.ntmps98
 go_wp2_with (go_at_call 120; refine HC.out.mono ?_; rintro e w2 ⟨⟨i, rfl, hi⟩, hb2⟩; have HI := Aside0.mk hi; have HB2 := Aside0.mk hb2; clear hi hb2)
 go_ret
 refine ⟨?_, HB2.out⟩
 have hi := HI.out
 cases r with
 | false =>
  have hd : decide (0 ≤ i) = false := decide_eq_false (fun h => by have := hi.1 h; cases this)
  rw [hd]
  rfl
 | true =>
  have hd : decide (0 ≤ i) = true := decide_eq_true (hi.2 rfl)
  rw [hd]
  rfl
set_option maxRecDepth 100000 in
set_option maxHeartbeats 4000000 in
theorem tree_Plain.calls (a0 : ByteArray) (a1 : ByteArray) (a2 : ByteArray) (A3 : Option Addr) (c3 : Nat) (l3 : List S68) (r : Bool) (w : World) (hr3 : Kd.C k68 w A3 l3.length l3) (hc3 : l3.length ≤ c3) (h : tree_Plain.f a0 a1 a2 l3 = some r) :
  Calls Try.prog 77 #[.string a0, .string a1, .string a2, .slice A3 l3.length c3] w fun e w' => e = .returned (.bool r) ∧ Below w.heap.size w w' := by
 replace h := Option.some.inj h
 unfold plainB at h
 have hmf : ∀ (fn : Fn) (first cap : Array Value) (w : World), (Instr.makeFunc fn first cap).run Try.prog w = .ok (.func fn first cap) w := fun _ _ _ _ => rfl
 have HL := Aside0.mk (fun (W : World) => tree_Letters.calls a0 (lettersB a0) W rfl)
 have HR := Aside0.mk hr3
 obtain ⟨n, hn⟩ : ∃ n, l3.length = n := ⟨_, rfl⟩
 have HN := Lib.hid hn
 rw [hn] at h ⊢
 clear hr3 hc3 hn
 cases h0 : a0.toList.isEmpty with
 | true =>
  rw [if_pos (List.isEmpty_iff.1 h0)] at h
  cases h1 : a1.toList.isEmpty with
  | false =>
   rw [decide_eq_false (fun e => by rw [List.isEmpty_iff.2 e] at h1; cases h1)] at h
   have HH := Lib.hid h
   clear h HL
   go_enter Try.func77, Try.ntmps77
   go_wp2_with fail
   go_ret
   exact ⟨by rw [← HH.out]; rfl, Below.refl _ _⟩
  | true =>
   rw [decide_eq_true (List.isEmpty_iff.1 h1)] at h
   obtain ⟨b, hb⟩ : ∃ b, decide (a2.size ≤ 128) = b := ⟨_, rfl⟩
   have hd : decide ((a2.size : Int) ≤ 128) = b := by rw [← hb]; exact decide_eq_decide.2 (by omega)
   obtain ⟨b2, hb2⟩ : ∃ b, decide (n = 0) = b := ⟨_, rfl⟩
   have hd2 : ((n : Int) == 0) = b2 := by
    rw [← hb2]
    cases n with
    | zero => rfl
    | succ n => exact beq_eq_false_iff_ne.mpr (by omega)
   rw [hb, hb2] at h
   have HH := Lib.hid h
   clear h HL hb hb2
   cases b with
   | false =>
    go_enter Try.func77, Try.ntmps77
    go_wp2_with fail
    go_ret
    exact ⟨by rw [← HH.out]; rfl, Below.refl _ _⟩
   | true =>
    go_enter Try.func77, Try.ntmps77
    go_wp2_with fail
    go_ret
    exact ⟨by rw [← HH.out]; rfl, Below.refl _ _⟩
 | false =>
  rw [if_neg (fun e => by rw [List.isEmpty_iff.2 e] at h0; cases h0)] at h
  obtain ⟨L, hL⟩ : ∃ L, lettersB a0 = L := ⟨_, rfl⟩
  obtain ⟨b1, hb1⟩ : ∃ b, decide (a1.size ≤ 16) = b := ⟨_, rfl⟩
  obtain ⟨b3, hb3⟩ : ∃ b, decide (n ≤ 16) = b := ⟨_, rfl⟩
  have hd1 : decide ((a1.size : Int) > 16) = !b1 := by rw [← hb1, ← decide_not]; exact decide_eq_decide.2 (by omega)
  have hd3 : decide ((n : Int) > 16) = !b3 := by rw [← hb3, ← decide_not]; exact decide_eq_decide.2 (by omega)
  have he2 : decide (a2.toList = []) = a2.toList.isEmpty := by
   cases h : a2.toList.isEmpty with
   | true => exact decide_eq_true (List.isEmpty_iff.1 h)
   | false => exact decide_eq_false (fun e => by rw [List.isEmpty_iff.2 e] at h; cases h)
  rw [hL] at HL
  rw [hL, hb1, hb3, he2] at h
  cases L with
  | false =>
   have HH := Lib.hid h
   clear h hL hb1 hb3 he2
   go_enter Try.func77, Try.ntmps77
   go_wp2_with (go_at_call 94; refine (HL.out _).mono ?_; rintro e w2 ⟨rfl, hb2⟩; have HB2 := Aside0.mk hb2; clear hb2)
   go_ret
   exact ⟨by rw [← HH.out]; rfl, HB2.out⟩
  | true =>
   cases b1 with
   | false =>
    have hd1 : decide ((a1.size : Int) > 16) = true := hd1
    have HH := Lib.hid h
    clear h hL hb1 hb3 he2
    go_enter Try.func77, Try.ntmps77
    go_wp2_with (go_at_call 94; refine (HL.out _).mono ?_; rintro e w2 ⟨rfl, hb2⟩; have HB2 := Aside0.mk hb2; clear hb2)
    go_ret
    exact ⟨by rw [← HH.out]; rfl, HB2.out⟩
   | true =>
    have hd1 : decide ((a1.size : Int) > 16) = false := hd1
    cases h2 : a2.toList.isEmpty with
    | false =>
     rw [h2] at h
     have HH := Lib.hid h
     clear h hL hb1 hb3 he2
     go_enter Try.func77, Try.ntmps77
     go_wp2_with (go_at_call 94; refine (HL.out _).mono ?_; rintro e w2 ⟨rfl, hb2⟩; have HB2 := Aside0.mk hb2; clear hb2)
     go_ret
     exact ⟨by rw [← HH.out]; rfl, HB2.out⟩
    | true =>
     rw [h2] at h
     cases b3 with
     | false =>
      have hd3 : decide ((n : Int) > 16) = true := hd3
      have HH := Lib.hid h
      clear h hL hb1 hb3 he2
      go_enter Try.func77, Try.ntmps77
      go_wp2_with (go_at_call 94; refine (HL.out _).mono ?_; rintro e w2 ⟨rfl, hb2⟩; have HB2 := Aside0.mk hb2; clear hb2)
      go_ret
      exact ⟨by rw [← HH.out]; rfl, HB2.out⟩
     | true =>
      have hd3 : decide ((n : Int) > 16) = false := hd3
      have hnl : n ≤ 16 := of_decide_eq_true hb3
      have HH := Lib.hid h
      clear h hL hb1 hb3 he2
      go_enter Try.func77, Try.ntmps77
      go_wp2_with (go_at_call 94; refine (HL.out _).mono ?_; rintro e w2 ⟨rfl, hb2⟩; have HB2 := Aside0.mk hb2; clear hb2)
      have hal := below_alloc (Below.refl w2.heap.size w2) (.cells #[.string ⟨#[]⟩] 9)
      have hany := anyattrs w2.heap.size ⟨#[]⟩ A3 c3 l3 w (w2.alloc (.cells #[.string ⟨#[]⟩] 9)) HB2.out.size HR.out (HB2.out.trans (hal.mono HB2.out.size)) (by have := HN.out; omega) (blk_new rfl)
      obtain ⟨q, hq⟩ : ∃ q, badAttrs ⟨#[]⟩ l3 = q := ⟨_, rfl⟩
      have HQ := Lib.hid hq
      rw [hq, HN.out] at hany
      refine hany.mono ?_
      rintro e w3 ⟨rfl, hb3⟩
      have HB3 := Aside0.mk ((HB2.out.trans (hal.mono HB2.out.size)).trans (hb3.below (by rw [World.size_alloc]; have := HB2.out.size; omega) HB2.out.size))
      clear hany hal hb3 hq hmf
      go_wp2_with fail
      go_ret
      exact ⟨by rw [← HH.out, HQ.out]; rfl, HB3.out⟩
end Go.Proofs.Ytleofbidijbahaa.D
