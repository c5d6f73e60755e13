import Derived.Test.YtleofbidijbahaaYD0
import Derived.Test.YtleofbidijbahaaYD5
import Derived.Test.YtleofbidijbahaaYD7
import Derived.Test.YtleofbidijbahaaYD19
import Derived.Test.YtleofbidijbahaaYD24
import Derived.Test.YtleofbidijbahaaYD27
namespace Go.Proofs.Ytleofbidijbahaa.D
open Go.RowKit Go.Proofs.YtleofbidijbahaaW.PrintWords Go.Proofs.YtleofbidijbahaaW.PrintLast Go.Proofs.YtleofbidijbahaaW.PrintMore
attribute [local go_sem] max2_int min2_int max_two min_two max_three min_three max_four min_four   -- for this text's walks alone
set_option linter.unusedVariables false
set_option linter.unusedSimpArgs false
def rootE (s : S28) (id : Int) : Int × S28 :=
 if id = 0 then (0, { s with f1 := 0 }) else match nodeOf s.f0 id with
  | none => (71, s)
  | some y => if y.f2.toList.isEmpty = true then (81, s) else if y.f1 = 0 then (0, { s with f1 := id }) else (9, s)
def createE (s : S28) (p : S45) : Int × S28 :=
 if p.f1 ≠ s.f2 then (32, s) else
 if plainB p.f4 p.f5 p.f6 [] = false then (9, s) else
 if 1024 ≤ s.f0.length ∨ 2147483647 ≤ s.f2 then (51, s) else
 (0, ⟨s.f0 ++ [⟨p.f1, 0, p.f4, p.f5, p.f6, [], []⟩], s.f1, s.f2 + 1⟩)
def Post (w : World) (base g : Nat) (ok : Nat → Prop) (R : Int × S28) (e : Ending) (w' : World) : Prop := ∃ v', e = .returned (.int .i64 R.1) ∧ Disp w' base g (okN ok w w') v' R.2.f0 R.2.f1 R.2.f2 ∧ Chg w w' (fun k => ok k ∨ k = g)
theorem Disp.setRoot {W : World} {base g : Nat} {ok : Nat → Prop} {v : Value} {ns : List S63} {r nx : Int} (h : Disp W base g ok v ns r nx) (r' : Int) : Disp (W.setCell ⟨g, 1, none⟩ (.int .i64 r')) base g ok v ns r' nx :=
 ⟨blk_put h.box 1 (.int .i64 r') rfl, Kd.S_far (p := ⟨g, 1, none⟩) h.row (fun k hk he => h.away ((show k = g from he) ▸ hk)) _, h.small, h.rises, h.gbase, h.away⟩
set_option maxRecDepth 100000 in
set_option maxHeartbeats 4000000 in
theorem root_is (base g : Nat) (ok : Nat → Prop) (v : Value) (ns : List S63) (r nx : Int) (p : S45) (w : World) (hD : Disp w base g ok v ns r nx) :
  Calls Try.prog 66 #[.pointer (some ⟨g, 0, none⟩), patchV p] w (Post w base g ok (rootE ⟨ns, r, nx⟩ p.f1)) := by
 obtain ⟨A, c, rfl⟩ := hD.slice_
 obtain ⟨n, hn⟩ : ∃ n, ns.length = n := ⟨_, rfl⟩
 rw [hn] at hD
 obtain ⟨W1, hW1⟩ : ∃ W, w.alloc (.cells #[.int .i64 p.f0, .int .i64 p.f1, .int .i64 p.f2, .int .i64 p.f3, .string p.f4, .string p.f5, .string p.f6, .string p.f7, .string p.f8] 45) = W := ⟨_, rfl⟩
 have hb1 : Below w.heap.size w W1 := by rw [← hW1]; exact (Below.refl _ _).alloc (Nat.le_refl _) _
 have hx1 : PBox W1 w.heap.size p := by rw [← hW1]; exact World.alloc_heap_new w _
 have hD1 := hD.below hb1
 obtain ⟨id, hid⟩ : ∃ id, p.f1 = id := ⟨_, rfl⟩
 have HFIND := Aside0.mk (hD1.sees.find id)
 have y1 : W1.cell? ⟨w.heap.size, 1, none⟩ = some (.int .i64 id) := by rw [← hid]; exact blk_cell hx1 1
 have HD := Aside0.mk hD
 have HD1 := Aside0.mk hD1
 have HX1 := Aside0.mk hx1
 have HB1 := Aside0.mk hb1
 rw [hid]
 obtain ⟨R, hR⟩ : ∃ R, rootE ⟨ns, r, nx⟩ id = R := ⟨_, rfl⟩
 rw [hR]
 unfold rootE at hR
 have HR := Lib.hid hR
 have HN := Lib.hid hn
 have HID := Lib.hid hid
 obtain ⟨P, hP⟩ : ∃ P, Post w base g ok R = P := ⟨_, rfl⟩
 have HP := Aside0.mk hP
 rw [hP]
 clear hb1 hx1 hD1 hD hR hn hid hP
 go_enter Try.func66, Try.ntmps66
 go_wp2_with fail
 refine HFIND.out.mono ?_
 rintro e w2 ⟨rfl, hb2⟩
 have HD2 := Aside0.mk (HD1.out.below hb2)
 have HB2 := Aside0.mk (HB1.out.trans (hb2.mono HB1.out.size))
 replace y1 := pw_cell_below hb2 y1
 have hbx := HD2.out.box
 have f1 : w2.frozen? ⟨g, 1, none⟩ = false := blk_frozen hbx _
 have c1 : w2.cell? ⟨g, 1, none⟩ = some (.int .i64 r) := blk_cell hbx 1
 have HSET := Aside0.mk (fun r' => HD2.out.setRoot r')
 have HGL := Aside0.mk (blk_lt HD.out.box)
 have HOKS : Aside0 (∀ r', Post w base g ok (0, ⟨ns, r', nx⟩) (.returned (.int .i64 0)) (w2.setCell ⟨g, 1, none⟩ (.int .i64 r'))) := ⟨fun r' => ⟨_, rfl, HD.out.okN_ (HSET.out r'), ((Chg.of_below HB2.out _).grown (grown_cell w2 g 1 _) (fun k hk => by injection hk with hk; exact .inl (.inr hk.symm)))⟩⟩
 have HERR : Aside0 (∀ z, Post w base g ok (z, ⟨ns, r, nx⟩) (.returned (.int .i64 z)) w2) := ⟨fun z => ⟨_, rfl, HD.out.errN HB2.out, Chg.of_below HB2.out _⟩⟩
 clear hb2 HFIND HD1 HX1 HB1 hbx HSET
 cases hno : nodeOf ns id with
 | none =>
  rw [findV_none hno]
  by_cases h0 : id = 0
  ·
   have HV : Aside0 (R = (0, ⟨ns, 0, nx⟩)) := ⟨by rw [← HR.out, if_pos h0]⟩
   subst h0
   go_wp2_with fail
   (try go_ret)
   rw [← HP.out, HV.out]
   exact HOKS.out 0
  ·
   have HV : Aside0 (R = (71, ⟨ns, r, nx⟩)) := ⟨by rw [← HR.out, if_neg h0]; simp only [hno]⟩
   have d0 : (id != 0) = true := bne_iff_ne.2 h0
   go_wp2_with fail
   (try go_ret)
   rw [← HP.out, HV.out]
   exact HERR.out 71
 | some y =>
  obtain ⟨ad, L, A5, c5, A6, c6, hA, -, -, -, -, hfv, -, e1, e2, -⟩ := HD2.out.sees.get hno
  rw [hfv]
  by_cases h0 : id = 0
  ·
   have HV : Aside0 (R = (0, ⟨ns, 0, nx⟩)) := ⟨by rw [← HR.out, if_pos h0]⟩
   subst h0
   go_wp2_with fail
   (try go_ret)
   rw [← HP.out, HV.out]
   exact HOKS.out 0
  ·
   have d0 : (id != 0) = true := bne_iff_ne.2 h0
   have hr := HR.out
   rw [if_neg h0] at hr
   simp only [hno] at hr
   have HR2 := Lib.hid hr
   obtain ⟨q, hq⟩ : ∃ q, y.f2.toList.isEmpty = q := ⟨_, rfl⟩
   obtain ⟨z, hz⟩ : ∃ z, y.f1 = z := ⟨_, rfl⟩
   rw [hq, hz] at HR2
   rw [hz] at e1
   have HQ := Lib.hid hq
   clear hr HR hA hfv hz
   cases q with
   | true =>
    have HV : Aside0 (R = (81, ⟨ns, r, nx⟩)) := ⟨by rw [← HR2.out, if_pos rfl]⟩
    go_wp2_with fail
    (try go_ret)
    rw [← HP.out, HV.out]
    exact HERR.out 81
   | false =>
    by_cases hz0 : z = 0
    ·
     have HV : Aside0 (R = (0, ⟨ns, id, nx⟩)) := ⟨by rw [← HR2.out, if_neg (by decide), if_pos hz0]⟩
     subst hz0
     go_wp2_with fail
     (try go_ret)
     rw [← HP.out, HV.out]
     exact HOKS.out id
    ·
     have HV : Aside0 (R = (9, ⟨ns, r, nx⟩)) := ⟨by rw [← HR2.out, if_neg (by decide), if_neg hz0]⟩
     have dz : (z != 0) = true := bne_iff_ne.2 hz0
     go_wp2_with fail
     (try go_ret)
     rw [← HP.out, HV.out]
     exact HERR.out 9
def bs (n k : Nat) : Array Bool := ⟨List.replicate k true ++ List.replicate (n - k) false⟩
theorem S_append_stepg {P : Program} {ops : Array Oper} {o : Oper} {a : Act} {Q : Exit → Act → World → Prop} {Kc : Act → World → Prop} {E : Prop} {α : Type} (d : Kd α) {W W0 : World} (base : Nat) (hgd : o.guard = none) (s x : Operand) (t e : TypeId) (z : Value) (bytes : Nat)
  (ho : o.op = .call { callee := .builtin .append, args := #[s, x], argTypes := #[t, t] })
  (ht : P.underlying t = some (.slice e)) (hinfo : (P.info? e).map (fun i => (i.zero, i.size, i.bytes)) = some (some z, d.sz, bytes)) (hz : z.cells.size = d.sz) (hs0 : 0 < d.sz) (hb0 : 0 < bytes)
  (v : Value) (xs : List α) (p : α) (cs : List Value) (ok okp : Nat → Prop) (hs : a.eval s = v) {N : Nat} (hNN : W.heap.size = N) (hx : a.eval x = .slice (some ⟨N, 0, none⟩) 1 1) (hp : d.M W base okp p cs) (hokp : ∀ k, okp k → ok k ∧ some k ≠ v.ownBlock) (hfresh : ∀ k, N ≤ k → ok k)
  (HO : Kd.S d e W base (fun k => ok k ∧ ¬ okp k) v xs) (hbase : base ≤ N) (hl : (xs.length + 1) * bytes ≤ 140737488355328) (hW0 : W0 = W.alloc (.cells cs.toArray e))
  (h : ∀ v1 w1, Kd.S d e w1 base ok v1 (xs ++ [p]) → W.grownBy w1 v.ownBlock → Kc (a.put o.dst v1) w1) :
  if Region.wanted o (yielded ops a.tmps) = true then Oper.wp P o a W0 Kc Q else E := by
 subst hW0 hNN
 have hw : Region.wanted o (yielded ops a.tmps) = true := by simp [Region.wanted, hgd]
 have hh := Kd.S_append_step (P := P) (ops := ops) (o := o) (a := a) (Kc := Kc) (Q := Q) d (w0 := W) base hw s x t e z bytes ho ht hinfo hz hs0 hb0 v xs p cs ok okp hs hx hp hokp hfresh HO (Below.refl _ _) hbase hl (fun v1 w1 hr _ hg _ => h v1 w1 hr hg)
 rw [if_pos hw] at hh ⊢
 exact hh
theorem rises_snoc {ns : List S63} {x : S63} (h : Rises ns) (hx : ∀ y ∈ ns, y.f0 < x.f0) : Rises (ns ++ [x]) := by
 intro i j hi hj hij
 simp only [List.length_append, List.length_singleton] at hi hj
 rw [List.getElem_append_left (by omega)]
 by_cases hjl : j < ns.length
 ·
  rw [List.getElem_append_left hjl]; exact h i j (by omega) hjl hij
 ·
  rw [List.getElem_append_right (by omega), List.getElem_singleton]; exact hx _ (List.getElem_mem _)
set_option maxRecDepth 100000 in
set_option maxHeartbeats 8000000 in
theorem create_is (base g : Nat) (ok : Nat → Prop) (v : Value) (ns : List S63) (r nx : Int) (p : S45) (w : World) (hD : Disp w base g ok v ns r nx) (hlt : ∀ y ∈ ns, y.f0 < nx) (hnx : 0 ≤ nx) (hbase : base ≤ w.heap.size) :
  Calls Try.prog 64 #[.pointer (some ⟨g, 0, none⟩), patchV p] w (Post w base g ok (createE ⟨ns, r, nx⟩ p)) := by
 obtain ⟨A, c, rfl⟩ := hD.slice_
 obtain ⟨n, hn⟩ : ∃ n, ns.length = n := ⟨_, rfl⟩
 rw [hn] at hD
 obtain ⟨W1, hW1⟩ : ∃ W, w.alloc (.cells #[.int .i64 p.f0, .int .i64 p.f1, .int .i64 p.f2, .int .i64 p.f3, .string p.f4, .string p.f5, .string p.f6, .string p.f7, .string p.f8] 45) = W := ⟨_, rfl⟩
 have hb1 : Below w.heap.size w W1 := by rw [← hW1]; exact (Below.refl _ _).alloc (Nat.le_refl _) _
 have hx1 : PBox W1 w.heap.size p := by rw [← hW1]; exact World.alloc_heap_new w _
 have hD1 := hD.bound.below hb1
 obtain ⟨id, hid⟩ : ∃ id, p.f1 = id := ⟨_, rfl⟩
 obtain ⟨q, hq⟩ : ∃ q, plainB p.f4 p.f5 p.f6 [] = q := ⟨_, rfl⟩
 have HPL := Aside0.mk (fun (W : World) => tree_Plain.calls p.f4 p.f5 p.f6 none 0 [] q W (Kd.C_nil _ _) (Nat.le_refl _) (by rw [← hq]; rfl))
 simp only [List.length_nil] at HPL
 have y1 : W1.cell? ⟨w.heap.size, 1, none⟩ = some (.int .i64 id) := by rw [← hid]; exact blk_cell hx1 1
 have y4 : W1.cell? ⟨w.heap.size, 4, none⟩ = some (.string p.f4) := blk_cell hx1 4
 have y5 : W1.cell? ⟨w.heap.size, 5, none⟩ = some (.string p.f5) := blk_cell hx1 5
 have y6 : W1.cell? ⟨w.heap.size, 6, none⟩ = some (.string p.f6) := blk_cell hx1 6
 have g2 : W1.cell? ⟨g, 2, none⟩ = some (.int .i64 nx) := blk_cell hD1.box 2
 have HD := Aside0.mk hD
 have HD1 := Aside0.mk hD1
 have HX1 := Aside0.mk hx1
 have HB1 := Aside0.mk hb1
 have HLT := Aside0.mk hlt
 have HBASE := Aside0.mk hbase
 have HNX := Aside0.mk hnx
 have hn1 : n ≤ 100000 := by rw [← hn]; exact hD.small
 obtain ⟨R, hR⟩ : ∃ R, createE ⟨ns, r, nx⟩ p = R := ⟨_, rfl⟩
 rw [hR]
 unfold createE at hR
 rw [hid, hq] at hR
 simp only [hn] at hR
 have HR := Lib.hid hR
 have HN := Lib.hid hn
 have HID := Lib.hid hid
 obtain ⟨P, hP⟩ : ∃ P, Post w base g ok R = P := ⟨_, rfl⟩
 have HP := Aside0.mk hP
 rw [hP]
 clear hb1 hx1 hD1 hD hR hn hid hP hlt hq hbase hnx
 go_enter Try.func64, Try.ntmps64
 by_cases hne : id = nx
 ·
  have dne : (id != nx) = false := by rw [hne]; exact bne_self_eq_false _
  have hr := HR.out
  rw [if_neg (fun h => h hne)] at hr
  have HR2 := Lib.hid hr
  have HNE := Lib.hid hne
  clear hr HR hne
  go_wp2_with fail
  go_quiet (fail)
  obtain ⟨W2, hW2⟩ : ∃ W2, W1.drewN nq = W2 := ⟨_, rfl⟩
  have hb2 : Below W1.heap.size W1 W2 := by rw [← hW2]; exact pw_below_drewN (Below.refl _ _) _
  have HB2 := Aside0.mk (HB1.out.trans (hb2.mono HB1.out.size))
  have HD2 := Aside0.mk (HD1.out.below hb2)
  have HX2 : Aside0 (PBox W2 w.heap.size p) := ⟨(hb2.block _ (blk_lt HX1.out)).trans HX1.out⟩
  replace y4 := pw_cell_below hb2 y4
  replace y5 := pw_cell_below hb2 y5
  replace y6 := pw_cell_below hb2 y6
  rw [hW2]
  clear hb2 hW1 hW2 HB1 HD1 HX1 y1 g2
  go_wp2_with fail
  refine (HPL.out _).mono ?_
  rintro e w3 ⟨rfl, hb3⟩
  have HB3 := Aside0.mk (HB2.out.trans (hb3.mono HB2.out.size))
  have hD3 := HD2.out.below hb3
  have HD3 := Aside0.mk hD3
  have HX3 : Aside0 (PBox w3 w.heap.size p) := ⟨(hb3.block _ (blk_lt HX2.out)).trans HX2.out⟩
  have HERR : Aside0 (∀ z, Post w base g ok (z, ⟨ns, r, nx⟩) (.returned (.int .i64 z)) w3) := ⟨fun z => ⟨_, rfl, HD.out.errN HB3.out, Chg.of_below HB3.out _⟩⟩
  clear hb3 HPL HD2 HX2 HB2 y4 y5 y6
  have g0 : w3.cell? ⟨g, 0, none⟩ = some (.slice A n c) := blk_cell hD3.box 0
  have g2 : w3.cell? ⟨g, 2, none⟩ = some (.int .i64 nx) := blk_cell hD3.box 2
  clear hD3
  cases q with
  | false =>
   have HV : Aside0 (R = (9, ⟨ns, r, nx⟩)) := ⟨by rw [← HR2.out, if_pos rfl]⟩
   go_wp2_with fail
   (try go_ret)
   rw [← HP.out, HV.out]
   exact HERR.out 9
  | true =>
   have hr := HR2.out
   rw [if_neg (by decide)] at hr
   have HR3 := Lib.hid hr
   clear hr HR2
   by_cases hn2 : 1024 ≤ n
   ·
    have d28 : decide ((n : Int) ≥ 1024) = true := decide_eq_true (by omega)
    have HV : Aside0 (R = (51, ⟨ns, r, nx⟩)) := ⟨by rw [← HR3.out, if_pos (.inl hn2)]⟩
    go_wp2_with fail
    (try go_ret)
    rw [← HP.out, HV.out]
    exact HERR.out 51
   ·
    have d28 : decide ((n : Int) ≥ 1024) = false := decide_eq_false (by omega)
    by_cases hx2 : 2147483647 ≤ nx
    ·
     have d34 : decide (nx ≥ 2147483647) = true := decide_eq_true (by omega)
     have HV : Aside0 (R = (51, ⟨ns, r, nx⟩)) := ⟨by rw [← HR3.out, if_pos (.inr hx2)]⟩
     go_wp2_with fail
     (try go_ret)
     rw [← HP.out, HV.out]
     exact HERR.out 51
    ·
     have d34 : decide (nx ≥ 2147483647) = false := decide_eq_false (by omega)
     have HV : Aside0 (R = (0, ⟨ns ++ [⟨p.f1, 0, p.f4, p.f5, p.f6, [], []⟩], r, nx + 1⟩)) := ⟨by rw [← HR3.out, if_neg (by omega), HID.out]⟩
     clear HR3 HERR
     have y1 : w3.cell? ⟨w.heap.size, 1, none⟩ = some (.int .i64 id) := by rw [← HID.out]; exact blk_cell HX3.out 1
     have y4 : w3.cell? ⟨w.heap.size, 4, none⟩ = some (.string p.f4) := blk_cell HX3.out 4
     have y5 : w3.cell? ⟨w.heap.size, 5, none⟩ = some (.string p.f5) := blk_cell HX3.out 5
     have y6 : w3.cell? ⟨w.heap.size, 6, none⟩ = some (.string p.f6) := blk_cell HX3.out 6
     go_upto_region 7 with (fail)
     go_cut [] (fun wx => ∃ v1, Kd.S k63 63 wx base (okN ok w wx) v1 (ns ++ [⟨p.f1, 0, p.f4, p.f5, p.f6, [], []⟩]) ∧ wx.heap[g]? = some (.cells #[v1, .int .i64 r, .int .i64 nx] 28 (0, 0)) ∧ Chg w wx (fun k => ok k ∨ k = g))
     case first =>
      have HS3 : Aside0 (∀ W, Below w3.heap.size w3 W → Kd.S k63 63 W base (fun k => ((ok k ∧ k < w.heap.size) ∨ w3.heap.size ≤ k) ∧ ¬ False) (.slice A n c) ns) := ⟨fun W hW => Kd.S_mono (Kd.S_below HD3.out.row hW) (fun k hk => ⟨.inl hk, fun h => h⟩)⟩
      have HM : Aside0 (∀ W, k63.M W base (fun _ => False) (⟨p.f1, 0, p.f4, p.f5, p.f6, [], []⟩ : S63) [.int .i64 id, .int .i64 0, .string p.f4, .string p.f5, .string p.f6, .slice none 0 0, .slice none 0 0]) := ⟨fun W => by rw [← HID.out]; exact k63_mkM W base _ ⟨p.f1, 0, p.f4, p.f5, p.f6, [], []⟩ (Kd.R_nil _ _ _ _ _) (Kd.R_nil _ _ _ _ _)⟩
      have HGN : Aside0 (some g ≠ (Value.slice A n c).ownBlock) := ⟨Kd.S_ne HD3.out.row HD3.out.box (by decide)⟩
      have HBX := Aside0.mk HD3.out.box
      have hle : w.heap.size ≤ w3.heap.size := HB3.out.size
      have hgl : g < w3.heap.size := blk_lt HBX.out
      have hgl2 : g ≠ w3.heap.size := by omega
      have hbse : base ≤ w3.heap.size := by have := HBASE.out; omega
      have HNN : Aside0 (w3.drew.heap.size = w3.heap.size) := ⟨rfl⟩
      have HBD : Aside0 (Below w3.heap.size w3 w3.drew) := ⟨below_drew1 (Below.refl _ _)⟩
      have HLN : Aside0 ((ns.length + 1) * 112 ≤ 140737488355328) := ⟨by have := HN.out; omega⟩
      have HDA : Aside0 (∀ o, (w3.alloc o).drew = w3.drew.alloc o) := ⟨fun _ => rfl⟩
      refine start_ (n := 19) (S := fun w' => w'.cell? ⟨g, 0, none⟩ = some (.slice A n c) ∧ w'.cell? ⟨w.heap.size, 1, none⟩ = some (.int .i64 id) ∧ w'.cell? ⟨w.heap.size, 4, none⟩ = some (.string p.f4) ∧ w'.cell? ⟨w.heap.size, 5, none⟩ = some (.string p.f5) ∧ w'.cell? ⟨w.heap.size, 6, none⟩ = some (.string p.f6)) (ds := [18]) (bs 19 0) (by kernel_rfl) rfl (by kernel_rfl) ⟨g0, y1, y4, y5, y6⟩ (fun hHeld => ?_)
      (refine pure_ (i := 0) (N := (some 36)) (v := ?_) (a' := ?_) (bs 19 1) rfl rfl (by kernel_rfl) (fun _ _ _ h => h) (Or.inl ⟨by rfl, ?_⟩) ?_ ?_; rotate_left; (intro w'; go_simp; with_reducible rfl); rotate_left; (simp only [Act.put, List.setIfInBounds_toArray, List.set_cons_zero, List.set_cons_succ, i64_w, i32_w]; rfl))
      (refine pure_ (i := 1) (N := (some 37)) (v := ?_) (a' := ?_) (bs 19 2) rfl rfl (by kernel_rfl) (fun _ _ _ h => h) (Or.inl ⟨by rfl, ?_⟩) ?_ ?_; rotate_left; (intro w'; go_simp; with_reducible rfl); rotate_left; (simp only [Act.put, List.setIfInBounds_toArray, List.set_cons_zero, List.set_cons_succ, i64_w, i32_w]; rfl))
      (refine pure_ (i := 2) (N := (some 38)) (v := ?_) (a' := ?_) (bs 19 3) rfl rfl (by kernel_rfl) (fun _ _ _ h => h) (Or.inl ⟨by rfl, ?_⟩) ?_ ?_; rotate_left; (intro w'; go_simp; with_reducible rfl); rotate_left; (simp only [Act.put, List.setIfInBounds_toArray, List.set_cons_zero, List.set_cons_succ, i64_w, i32_w]; rfl))
      (refine pure_ (i := 3) (N := (some 39)) (v := ?_) (a' := ?_) (bs 19 4) rfl rfl (by kernel_rfl) (fun _ _ _ h => h) (Or.inl ⟨by rfl, ?_⟩) ?_ ?_; rotate_left; (intro w'; go_simp; with_reducible rfl); rotate_left; (simp only [Act.put, List.setIfInBounds_toArray, List.set_cons_zero, List.set_cons_succ, i64_w, i32_w]; rfl))
      (refine take_ (i := 4) (N := (some 40)) (v := ?_) (a' := ?_) (bs 19 5) rfl rfl (by kernel_rfl) (fun _ _ _ h => h) (Or.inl ⟨by rfl, ?_⟩) hHeld ?_ ?_; rotate_left; (rintro w' ⟨s0, s1, s4, s5, s6⟩; go_simp; with_reducible rfl); rotate_left; (simp only [Act.put, List.setIfInBounds_toArray, List.set_cons_zero, List.set_cons_succ, i64_w, i32_w]; rfl))
      (refine pure_ (i := 5) (N := (some 41)) (v := ?_) (a' := ?_) (bs 19 6) rfl rfl (by kernel_rfl) (fun _ _ _ h => h) (Or.inl ⟨by rfl, ?_⟩) ?_ ?_; rotate_left; (intro w'; go_simp; with_reducible rfl); rotate_left; (simp only [Act.put, List.setIfInBounds_toArray, List.set_cons_zero, List.set_cons_succ, i64_w, i32_w]; rfl))
      (refine take_ (i := 6) (N := (some 42)) (v := ?_) (a' := ?_) (bs 19 7) rfl rfl (by kernel_rfl) (fun _ _ _ h => h) (Or.inl ⟨by rfl, ?_⟩) hHeld ?_ ?_; rotate_left; (rintro w' ⟨s0, s1, s4, s5, s6⟩; go_simp; with_reducible rfl); rotate_left; (simp only [Act.put, List.setIfInBounds_toArray, List.set_cons_zero, List.set_cons_succ, i64_w, i32_w]; rfl))
      (refine pure_ (i := 7) (N := (some 43)) (v := ?_) (a' := ?_) (bs 19 8) rfl rfl (by kernel_rfl) (fun _ _ _ h => h) (Or.inl ⟨by rfl, ?_⟩) ?_ ?_; rotate_left; (intro w'; go_simp; with_reducible rfl); rotate_left; (simp only [Act.put, List.setIfInBounds_toArray, List.set_cons_zero, List.set_cons_succ, i64_w, i32_w]; rfl))
      (refine take_ (i := 8) (N := (some 44)) (v := ?_) (a' := ?_) (bs 19 9) rfl rfl (by kernel_rfl) (fun _ _ _ h => h) (Or.inl ⟨by rfl, ?_⟩) hHeld ?_ ?_; rotate_left; (rintro w' ⟨s0, s1, s4, s5, s6⟩; go_simp; with_reducible rfl); rotate_left; (simp only [Act.put, List.setIfInBounds_toArray, List.set_cons_zero, List.set_cons_succ, i64_w, i32_w]; rfl))
      (refine pure_ (i := 9) (N := (some 45)) (v := ?_) (a' := ?_) (bs 19 10) rfl rfl (by kernel_rfl) (fun _ _ _ h => h) (Or.inl ⟨by rfl, ?_⟩) ?_ ?_; rotate_left; (intro w'; go_simp; with_reducible rfl); rotate_left; (simp only [Act.put, List.setIfInBounds_toArray, List.set_cons_zero, List.set_cons_succ, i64_w, i32_w]; rfl))
      (refine take_ (i := 10) (N := (some 46)) (v := ?_) (a' := ?_) (bs 19 11) rfl rfl (by kernel_rfl) (fun _ _ _ h => h) (Or.inl ⟨by rfl, ?_⟩) hHeld ?_ ?_; rotate_left; (rintro w' ⟨s0, s1, s4, s5, s6⟩; go_simp; with_reducible rfl); rotate_left; (simp only [Act.put, List.setIfInBounds_toArray, List.set_cons_zero, List.set_cons_succ, i64_w, i32_w]; rfl))
      (refine pure_ (i := 11) (N := (some 47)) (v := ?_) (a' := ?_) (bs 19 12) rfl rfl (by kernel_rfl) (fun _ _ _ h => h) (Or.inl ⟨by rfl, ?_⟩) ?_ ?_; rotate_left; (intro w'; go_simp; with_reducible rfl); rotate_left; (simp only [Act.put, List.setIfInBounds_toArray, List.set_cons_zero, List.set_cons_succ, i64_w, i32_w]; rfl))
      (refine take_ (i := 12) (N := (some 48)) (v := ?_) (a' := ?_) (bs 19 13) rfl rfl (by kernel_rfl) (fun _ _ _ h => h) (Or.inl ⟨by rfl, ?_⟩) hHeld ?_ ?_; rotate_left; (rintro w' ⟨s0, s1, s4, s5, s6⟩; go_simp; with_reducible rfl); rotate_left; (simp only [Act.put, List.setIfInBounds_toArray, List.set_cons_zero, List.set_cons_succ, i64_w, i32_w]; rfl))
      (refine pure_ (i := 13) (N := (some 49)) (v := ?_) (a' := ?_) (bs 19 14) rfl rfl (by kernel_rfl) (fun _ _ _ h => h) (Or.inl ⟨by rfl, ?_⟩) ?_ ?_; rotate_left; (intro w'; go_simp; with_reducible rfl); rotate_left; (simp only [Act.put, List.setIfInBounds_toArray, List.set_cons_zero, List.set_cons_succ, i64_w, i32_w]; rfl))
      refine one_ (i := 14) (N := (some 50)) (bs 19 15) rfl rfl (by kernel_rfl) (by decide) (fun K hK => ?_)
      (refine value_ (w1 := ?_) (v := ?_) (by rfl) rfl ?_ ?_; rotate_left 2; (go_simp; constructor; rfl; rfl))
      refine hK.out _ _ ⟨pw_cell_below (below_alloc HBD.out _) g0, pw_cell_below (below_alloc HBD.out _) y1, pw_cell_below (below_alloc HBD.out _) y4, pw_cell_below (below_alloc HBD.out _) y5, pw_cell_below (below_alloc HBD.out _) y6⟩ (fun hHeld => ?_)
      clear hK K
      (refine norm_ (a' := ?_) ?_ ?_; rotate_left; (show Act.put _ (some 50) _ = _; (simp only [Act.put, List.setIfInBounds_toArray, List.set_cons_zero, List.set_cons_succ, i64_w, i32_w]; rfl)))
      refine one_ (i := 15) (N := (some 51)) (bs 19 16) rfl rfl (by kernel_rfl) (by decide) (fun K hK => ?_)
      refine S_append_stepg k63 (W := w3.drew) base rfl (.tmp 40) (.tmp 50) 26 63 (.agg #[(.int .i64 0), (.int .i64 0), (.string ⟨#[]⟩), (.string ⟨#[]⟩), (.string ⟨#[]⟩), (.slice none 0 0), (.slice none 0 0)]) 112 rfl Try.underlying26 info63 rfl (by decide) (by decide) (.slice A n c) ns ⟨p.f1, 0, p.f4, p.f5, p.f6, [], []⟩ [.int .i64 id, .int .i64 0, .string p.f4, .string p.f5, .string p.f6, .slice none 0 0, .slice none 0 0] (fun k => (ok k ∧ k < w.heap.size) ∨ w3.heap.size ≤ k) (fun _ => False) rfl (N := w3.heap.size) HNN.out rfl (HM.out _) (fun _ hk => hk.elim) (fun k hk => .inr hk) (HS3.out _ HBD.out) hbse HLN.out rfl ?_
      intro v1 w1 hS1 hg1
      obtain ⟨A1, c1, rfl⟩ := Kd.S_slice hS1
      have hgw : w3.grownBy w1 (Value.slice A n c).ownBlock := ⟨hg1.os, hg1.tape, hg1.output, hg1.size, hg1.block⟩
      have hpn : some w.heap.size ≠ (Value.slice A n c).ownBlock := Kd.S_ne HD3.out.row HX3.out (by decide)
      have z0 := cell_grown hgw g0 HGN.out
      have z1 := cell_grown hgw y1 hpn
      have z4 := cell_grown hgw y4 hpn
      have z5 := cell_grown hgw y5 hpn
      have z6 := cell_grown hgw y6 hpn
      have hz1 := blk_grown HBX.out hgw HGN.out
      have zf : w1.frozen? ⟨g, 0, none⟩ = false := blk_frozen hz1 _
      have HZ1 := Aside0.mk hz1
      have HS1 := Aside0.mk hS1
      have HGW := Aside0.mk hgw
      clear hS1 hg1 hgw hz1 hpn
      refine hK.out _ _ ⟨z0, z1, z4, z5, z6⟩ (fun hHeld => ?_)
      clear hK K
      (refine norm_ (a' := ?_) ?_ ?_; rotate_left; (show Act.put _ (some 51) _ = _; (simp only [Act.put, List.setIfInBounds_toArray, List.set_cons_zero, List.set_cons_succ, i64_w, i32_w]; rfl)))
      (refine pure_ (i := 16) (N := (some 52)) (v := ?_) (a' := ?_) (bs 19 17) rfl rfl (by kernel_rfl) (fun _ _ _ h => h) (Or.inl ⟨by rfl, ?_⟩) ?_ ?_; rotate_left; (intro w'; go_simp; with_reducible rfl); rotate_left; (simp only [Act.put, List.setIfInBounds_toArray, List.set_cons_zero, List.set_cons_succ, i64_w, i32_w]; rfl))
      (refine pure_ (i := 17) (N := (some 53)) (v := ?_) (a' := ?_) (bs 19 18) rfl rfl (by kernel_rfl) (fun _ _ _ h => h) (Or.inl ⟨by rfl, ?_⟩) ?_ ?_; rotate_left; (intro w'; go_simp; with_reducible rfl); rotate_left; (simp only [Act.put, List.setIfInBounds_toArray, List.set_cons_zero, List.set_cons_succ, i64_w, i32_w]; rfl))
      refine last_ (i := 18) (N := none) (bs 19 19) rfl rfl (by kernel_rfl) (by decide) (fun K hK => ?_)
      (refine skip_ (w1 := ?_) (by rfl) rfl ?_ ?_; rotate_left; (go_simp; rfl))
      refine hK.out _ _ ?_
      clear hK K
      refine done_ (by kernel_rfl) ?_
      have HFN : Aside0 (∃ v1, Kd.S k63 63 (w1.setCell ⟨g, 0, none⟩ (.slice A1 (ns ++ [(⟨p.f1, 0, p.f4, p.f5, p.f6, [], []⟩ : S63)]).length c1)) base (okN ok w (w1.setCell ⟨g, 0, none⟩ (.slice A1 (ns ++ [(⟨p.f1, 0, p.f4, p.f5, p.f6, [], []⟩ : S63)]).length c1))) v1 (ns ++ [⟨p.f1, 0, p.f4, p.f5, p.f6, [], []⟩]) ∧ (w1.setCell ⟨g, 0, none⟩ (.slice A1 (ns ++ [(⟨p.f1, 0, p.f4, p.f5, p.f6, [], []⟩ : S63)]).length c1)).heap[g]? = some (.cells #[v1, .int .i64 r, .int .i64 nx] 28 (0, 0)) ∧ Chg w (w1.setCell ⟨g, 0, none⟩ (.slice A1 (ns ++ [(⟨p.f1, 0, p.f4, p.f5, p.f6, [], []⟩ : S63)]).length c1)) (fun k => ok k ∨ k = g)) := by
       have hsz : (w1.setCell ⟨g, 0, none⟩ (.slice A1 (ns ++ [(⟨p.f1, 0, p.f4, p.f5, p.f6, [], []⟩ : S63)]).length c1)).heap.size = w1.heap.size := (setCells_same g [.slice A1 (ns ++ [(⟨p.f1, 0, p.f4, p.f5, p.f6, [], []⟩ : S63)]).length c1] 0 w1).2.2.2
       have hS4 := Kd.S_far (p := ⟨g, 0, none⟩) HS1.out (fun k hk he => by
        have he : k = g := he
        subst he
        rcases hk with hk | hk
        ·
         exact HD.out.away hk.1
        ·
         omega) (.slice A1 (ns ++ [(⟨p.f1, 0, p.f4, p.f5, p.f6, [], []⟩ : S63)]).length c1)
       refine ⟨_, Kd.S_mono (Kd.S_bound hS4) (fun k hk => ?_), blk_put HZ1.out 0 _ rfl, ((Chg.of_below HB3.out _).grown HGW.out (fun k hk => ?_)).grown (grown_cell w1 g 0 _) (fun k hk => by injection hk with hk; exact .inl (.inr hk.symm))⟩
       ·
        have h2 := hk.2.2.1
        rw [hsz] at h2
        show ok k ∨ (w.heap.size ≤ k ∧ k < (w1.setCell _ _).heap.size)
        rw [hsz]
        rcases hk.1 with hk | hk
        ·
         exact .inl hk.1
        ·
         exact .inr ⟨by omega, h2⟩
       ·
        exact .inl (.inl ((Kd.S_R HD3.out.row).1 k hk).1)
      rw [List.length_append, List.length_singleton] at HFN
      go_wp2_with fail
      go_meet
      exact HFN.out
     case rest =>
      obtain ⟨v1, hS4, hb4, hc4⟩ := hcut
      have HS4 := Aside0.mk hS4
      have HB4 := Aside0.mk hb4
      have HC4 := Aside0.mk hc4
      have c2 := blk_cell hb4 2
      have f2 := blk_frozen hb4 2
      have hwr : IntKind.i64.wrap (nx + 1) = nx + 1 := by rw [IntKind.wrap_i64]; have := HNX.out; omega
      clear hS4 hb4 hc4
      go_wp2_with fail
      (try go_ret)
      rw [← HP.out, HV.out]
      have hsz : (wc.setCell ⟨g, 2, none⟩ (.int .i64 (nx + 1))).heap.size = wc.heap.size := (setCells_same g [.int .i64 (nx + 1)] 2 wc).2.2.2
      refine ⟨v1, rfl, ⟨blk_put HB4.out 2 _ rfl, ?_, by rw [List.length_append, List.length_singleton]; have := HN.out; omega, rises_snoc HD.out.rises (fun y hy => ?_), HD.out.gbase, fun hk => ?_⟩, HC4.out.grown (grown_cell wc g 2 _) (fun k hk => by injection hk with hk; exact .inl (.inr hk.symm))⟩
      ·
       have hS5 := Kd.S_far (p := ⟨g, 2, none⟩) HS4.out (fun k hk he => by
        have he : k = g := he
        subst he
        rcases hk with hk | hk
        ·
         exact HD.out.away hk
        ·
         have := blk_lt HD.out.box; omega) (.int .i64 (nx + 1))
       refine Kd.S_mono hS5 (fun k hk => ?_)
       show ok k ∨ (w.heap.size ≤ k ∧ k < (wc.setCell _ _).heap.size)
       rw [hsz]
       exact hk
      ·
       show y.f0 < p.f1
       rw [HID.out, HNE.out]
       exact HLT.out y hy
      ·
       rcases hk with hk | hk
       ·
        exact HD.out.away hk
       ·
        have := blk_lt HD.out.box; omega
 ·
  have dne : (id != nx) = true := bne_iff_ne.2 hne
  have HV : Aside0 (R = (32, ⟨ns, r, nx⟩)) := ⟨by rw [← HR.out, if_pos hne]⟩
  have HERR : Aside0 (∀ m, Post w base g ok (32, ⟨ns, r, nx⟩) (.returned (.int .i64 32)) (W1.drewN m)) := ⟨fun m => ⟨_, rfl, HD.out.errN (pw_below_drewN HB1.out m), Chg.of_below (pw_below_drewN HB1.out m) _⟩⟩
  go_wp2_with fail
  go_quiet (fail)
  go_wp2_with fail
  (try go_ret)
  rw [← HP.out, HV.out]
  exact HERR.out _
end Go.Proofs.Ytleofbidijbahaa.D
