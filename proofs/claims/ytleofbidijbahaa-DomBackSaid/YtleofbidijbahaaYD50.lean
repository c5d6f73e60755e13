import Derived.Test.YtleofbidijbahaaYD0
import Derived.Test.YtleofbidijbahaaYD5
import Derived.Test.YtleofbidijbahaaYD11
import Derived.Test.YtleofbidijbahaaYD14
import Derived.Test.YtleofbidijbahaaYD19
import Derived.Test.YtleofbidijbahaaYD17
import Derived.Test.YtleofbidijbahaaYD28
import Derived.Test.YtleofbidijbahaaYD49
namespace Go.Proofs.Ytleofbidijbahaa.D
open Go.RowKit Go.Proofs.YtleofbidijbahaaW.PrintWords Go.Proofs.YtleofbidijbahaaW.PrintLast Go.Proofs.YtleofbidijbahaaW.PrintMore
attribute [local go_sem] max2_int min2_int max_two min_two max_three min_three max_four min_four   -- for this text's walks alone
set_option linter.unusedVariables false
set_option linter.unusedSimpArgs false
def treeF (ns : List S63) : Nat → Int → S51
 | 0, _ => z51
 | k + 1, id => match nodeOf ns id with
  | none => z51
  | some y => ⟨y.f2, y.f3, y.f4, y.f5, y.f6.map (treeF ns k)⟩
theorem below_set5 {b g : Nat} {w W : World} (h : Below b w W) (hg : b ≤ g) (a0 a1 a2 a3 a4 : Value) : Below b w (((((W.setCell ⟨g, 0, none⟩ a0).setCell ⟨g, 1, none⟩ a1).setCell ⟨g, 2, none⟩ a2).setCell ⟨g, 3, none⟩ a3).setCell ⟨g, 4, none⟩ a4) :=
 ((((h.setCell (p := ⟨g, 0, none⟩) hg a0).setCell (p := ⟨g, 1, none⟩) hg a1).setCell (p := ⟨g, 2, none⟩) hg a2).setCell (p := ⟨g, 3, none⟩) hg a3).setCell (p := ⟨g, 4, none⟩) hg a4
theorem box_set5 {g t : Nat} {W : World} {c0 c1 c2 c3 c4 : Value} (h : W.heap[g]? = some (.cells #[c0, c1, c2, c3, c4] t (0, 0))) (a0 a1 a2 a3 a4 : Value) : (((((W.setCell ⟨g, 0, none⟩ a0).setCell ⟨g, 1, none⟩ a1).setCell ⟨g, 2, none⟩ a2).setCell ⟨g, 3, none⟩ a3).setCell ⟨g, 4, none⟩ a4).heap[g]? = some (.cells #[a0, a1, a2, a3, a4] t (0, 0)) :=
 blk_put (blk_put (blk_put (blk_put (blk_put h 0 a0 rfl) 1 a1 rfl) 2 a2 rfl) 3 a3 rfl) 4 a4 rfl
theorem R_set5 {α : Type} {d : Kd α} {e base g : Nat} {ok : Nat → Prop} {W : World} {v : Value} {xs : List α} (h : d.R e W base ok v xs) (hok : ∀ k, ok k → k ≠ g) (a0 a1 a2 a3 a4 : Value) : d.R e (((((W.setCell ⟨g, 0, none⟩ a0).setCell ⟨g, 1, none⟩ a1).setCell ⟨g, 2, none⟩ a2).setCell ⟨g, 3, none⟩ a3).setCell ⟨g, 4, none⟩ a4) base ok v xs :=
 Kd.R_far (p := ⟨g, 4, none⟩) (Kd.R_far (p := ⟨g, 3, none⟩) (Kd.R_far (p := ⟨g, 2, none⟩) (Kd.R_far (p := ⟨g, 1, none⟩) (Kd.R_far (p := ⟨g, 0, none⟩) h hok a0) hok a1) hok a2) hok a3) hok a4
def TreeOut (w' : World) (base : Nat) (T : S51) (v : Value) : Prop := ∃ v3 v4 : Value, v = .agg #[.string T.f0, .string T.f1, .string T.f2, v3, v4] ∧ Kd.R k68 68 w' base (fun _ => True) v3 T.f3 ∧ Kd.R k51 51 w' base (fun k => some k ≠ v3.ownBlock) v4 T.f4
structure TreeAt (w2 wx : World) (b6 : Nat) (c0 c1 c2 : ByteArray) (va : Value) (l5 : List S68) (v : Value) (l : List S51) : Prop where
 below : Below w2.heap.size w2 wx
 box : wx.heap[b6]? = some (.cells #[.string c0, .string c1, .string c2, va, v] 51 (0, 0))
 at_ : w2.heap.size ≤ b6
 attrs : Kd.R k68 68 wx w2.heap.size (fun k => k ≠ b6) va l5
 kids : Kd.R k51 51 wx w2.heap.size (fun k => k ≠ b6 ∧ some k ≠ va.ownBlock) v l
section
variable {w2 wx wy : World} {b6 : Nat} {c0 c1 c2 : ByteArray} {va v v1 : Value} {l5 : List S68} {l l1 : List S51}
theorem TreeAt.down (h : TreeAt w2 wx b6 c0 c1 c2 va l5 v l) (hb : Below wx.heap.size wx wy) : TreeAt w2 wy b6 c0 c1 c2 va l5 v l :=
 ⟨h.below.trans (hb.mono h.below.size), (hb.block _ (blk_lt h.box)).trans h.box, h.at_, Kd.R_below h.attrs hb, Kd.R_below h.kids hb⟩
theorem TreeAt.put (h : TreeAt w2 wx b6 c0 c1 c2 va l5 v l) (hg : wx.grownBy wy v.ownBlock) (hb : Below w2.heap.size w2 wy) (hr : Kd.R k51 51 wy w2.heap.size (fun k => k ≠ b6 ∧ some k ≠ va.ownBlock) v1 l1) : TreeAt w2 (wy.setCell ⟨b6, 4, none⟩ v1) b6 c0 c1 c2 va l5 v1 l1 :=
 ⟨hb.setCell (p := ⟨b6, 4, none⟩) h.at_ v1, blk_put (blk_grown h.box hg (Kd.R_away h.kids (fun _ hk => hk.1))) 4 v1 rfl, h.at_, Kd.R_far (p := ⟨b6, 4, none⟩) (Kd.R_over' h.attrs (Kd.R_typed h.kids) (by decide) hg) (fun _ hk => hk) v1, Kd.R_far (p := ⟨b6, 4, none⟩) hr (fun _ hk => hk.1) v1⟩
end
theorem R_append_stepg {P : Program} {ops : Array Oper} {o : Oper} {a : Act} {Q : Exit → Act → World → Prop} {Kc : Act → World → Prop} {E : Prop} {α : Type} (d : Kd α) {w0 W W0 : World} (base : Nat) (hgd : o.guard = none) (s x : Operand) (t e : TypeId) (z : Value) (bytes : Nat)
  (ho : o.op = .call { callee := .builtin .append, args := #[s, x], argTypes := #[t, t] })
  (ht : P.underlying t = some (.slice e)) (hinfo : (P.info? e).map (fun i => (i.zero, i.size, i.bytes)) = some (some z, d.sz, bytes)) (hz : z.cells.size = d.sz) (hs0 : 0 < d.sz) (hb0 : 0 < bytes)
  (v : Value) (xs : List α) (p : α) (cs : List Value) (ok okp : Nat → Prop) (hs : a.eval s = v) {N : Nat} (hNN : W.heap.size = N) (hx : a.eval x = .slice (some ⟨N, 0, none⟩) 1 1) (hp : d.M W base okp p cs) (hokp : ∀ k, okp k → ok k ∧ some k ≠ v.ownBlock) (hfresh : ∀ k, N ≤ k → ok k)
  (HO : d.R e W base ok v xs) (HB : Below base w0 W) (hbase : base ≤ N) (hl : (xs.length + 1) * bytes ≤ 140737488355328) (hW0 : W0 = W.alloc (.cells cs.toArray e))
  (h : ∀ v1 w1, d.R e w1 base ok v1 (xs ++ [p]) → Below base w0 w1 → W.grownBy w1 v.ownBlock → Kc (a.put o.dst v1) w1) :
  if Region.wanted o (yielded ops a.tmps) = true then Oper.wp P o a W0 Kc Q else E := by
 subst hW0 hNN
 have hw : Region.wanted o (yielded ops a.tmps) = true := by simp [Region.wanted, hgd]
 have hh := Kd.R_append_step (P := P) (ops := ops) (o := o) (a := a) (Kc := Kc) (Q := Q) d (w0 := w0) (W := W) base hw s x t e z bytes ho ht hinfo hz hs0 hb0 v xs p cs ok okp hs hx hp hokp hfresh HO HB hbase hl (fun v1 w1 hr hb hg _ => h v1 w1 hr hb hg)
 rw [if_pos hw] at hh ⊢
 exact hh
set_option maxRecDepth 100000 in
set_option maxHeartbeats 8000000 in
theorem tree_is (g : Nat) (rv nv : Value) (A : Option Addr) (c n : Nat) (ns : List S63) (hall : ∀ y ∈ ns, ∀ k ∈ y.f6, ∃ x, nodeOf ns k = some x) (hel : ∀ x ∈ ns, x.f5.length < 1000000000 ∧ x.f6.length ≤ 1000000) : ∀ (k : Nat) (id : Int) (w : World), Sees w g rv nv A c n ns → (∃ x, nodeOf ns id = some x) → deepF ns k id = false →
  Calls Try.prog 45 #[.pointer (some ⟨g, 0, none⟩), .int .i64 id] w fun e w' => ∃ v_ : Value, e = .returned v_ ∧ TreeOut w' w.heap.size (treeF ns k id) v_ ∧ Below w.heap.size w w' := by
 intro k
 induction k with
 | zero =>
  intro id w _ _ h
  cases h
 | succ k ih =>
  intro id w hS hno hdp
  obtain ⟨y, hy⟩ := hno
  rw [deepF, hy] at hdp
  have hkd : ∀ x ∈ y.f6, deepF ns k x = false := fun x hx => by
   have := List.any_eq_false.1 hdp x hx
   simpa using this
  have hyn : y ∈ ns := by
   obtain ⟨hL, hr, -⟩ := nodeOf_some hy
   rw [← hr, rd_lt hL]
   exact List.getElem_mem _
  have hym := hall y hyn
  have hyl := hel y hyn
  obtain ⟨T, hT⟩ : ∃ T, treeF ns (k + 1) id = T := ⟨_, rfl⟩
  rw [hT]
  rw [treeF, hy] at hT
  have HT := Lib.hid hT
  obtain ⟨N, hNN⟩ : ∃ N, w.heap.size = N := ⟨_, rfl⟩
  have hx0 : (Value.slice none 0 0).oneCell' = true := rfl
  obtain ⟨W1, hW1⟩ : ∃ W, w.alloc (.cells #[.string ⟨#[]⟩, .string ⟨#[]⟩, .string ⟨#[]⟩, .slice none 0 0, .slice none 0 0] 51) = W := ⟨_, rfl⟩
  have hb1 : Below N w W1 := by rw [← hW1, ← hNN]; exact (Below.refl _ _).alloc (Nat.le_refl _) _
  have hx1 : W1.heap[N]? = some (.cells #[.string ⟨#[]⟩, .string ⟨#[]⟩, .string ⟨#[]⟩, .slice none 0 0, .slice none 0 0] 51 (0, 0)) := by rw [← hW1, ← hNN]; exact World.alloc_heap_new w _
  have hS1 := hS.below (hNN ▸ hb1)
  have HFIND := Aside0.mk (hS1.find id)
  have HS1 := Aside0.mk hS1
  have HX1 := Aside0.mk hx1
  have HB1 := Aside0.mk hb1
  have HY := Aside0.mk hy
  have HKD := Aside0.mk hkd
  have HYM := Aside0.mk hym
  have HYL := Aside0.mk hyl
  have HNN := Lib.hid hNN
  have IH := Aside0.mk ih
  clear hS hy hdp hkd hyn hym hyl hT hb1 hx1 hS1 ih hall hel hx0
  go_enter Try.func45, Try.ntmps45
  go_wp2_with fail
  refine HFIND.out.mono ?_
  rintro e w2 ⟨rfl, hb2⟩
  have hS2 := HS1.out.below hb2
  obtain ⟨ad, L, A5, c5, A6, c6, rfl, -, -, -, -, hfv, -, -, e2, e3, e4, e5, e6, ⟨hl5, hC5⟩, hl6, hC6⟩ := hS2.get HY.out
  rw [hfv]
  have HB2 := Aside0.mk (HB1.out.trans (hb2.mono (by have := HB1.out.size; have := HNN.out; omega)))
  have HX2 := Aside0.mk ((hb2.block _ (blk_lt HX1.out)).trans HX1.out)
  have HS2 := Aside0.mk hS2
  have HCL : Aside0 (∀ W, Below w2.heap.size w2 W → Calls Try.prog 56 #[.slice A5 y.f5.length c5] W fun e w' => ∃ v0_ : Value, e = .returned v0_ ∧ Kd.R k68 68 w' W.heap.size (fun _ => True) v0_ y.f5 ∧ Below W.heap.size W w') := ⟨fun W hW => cloneA A5 c5 y.f5 W (Kd.C_below hC5 hW) hl5 HYL.out.1⟩
  have HC6 := Aside0.mk hC6
  obtain ⟨m5, hm5⟩ : ∃ m, y.f5.length = m := ⟨_, rfl⟩
  obtain ⟨m6, hm6⟩ : ∃ m, y.f6.length = m := ⟨_, rfl⟩
  rw [hm5] at e5 HCL
  rw [hm6] at e6 HC6
  have HM5 := Lib.hid hm5
  have HM6 := Lib.hid hm6
  clear hb2 hS2 hfv hl5 hC5 hl6 hC6 hm5 hm6 HFIND HX1 HB1 HS1
  go_upto_region 2 with (fail)
  have HBD : Aside0 (Below w2.heap.size w2 w2.drew) := ⟨below_drew1 (Below.refl _ _)⟩
  have HBE : Aside0 (Below w2.heap.size w2 (w2.alloc (.cells #[.string ⟨#[]⟩, .string ⟨#[]⟩, .string ⟨#[]⟩, .slice none 0 0, .slice none 0 0] 51)).drew) := ⟨below_drew1 (below_alloc (Below.refl _ _) _)⟩
  have HXE : Aside0 ((w2.alloc (.cells #[.string ⟨#[]⟩, .string ⟨#[]⟩, .string ⟨#[]⟩, .slice none 0 0, .slice none 0 0] 51)).drew.heap[w2.heap.size]? = some (.cells #[.string ⟨#[]⟩, .string ⟨#[]⟩, .string ⟨#[]⟩, .slice none 0 0, .slice none 0 0] 51 (0, 0))) := ⟨World.alloc_heap_new w2 _⟩
  obtain ⟨q, hq⟩ : ∃ q : Addr, ad.add (L * 7) = q := ⟨_, rfl⟩
  rw [hq] at e2 e3 e4 e5 e6 ⊢
  go_cut [6] (fun s6 wx => ∃ (b6 : Nat) (AA : Option Addr) (cA : Nat), s6 = .pointer (some ⟨b6, 0, none⟩) ∧ Aside0 (TreeAt w2 wx b6 y.f2 y.f3 y.f4 (.slice AA m5 cA) y.f5 (.slice none 0 0) []))
  case first =>
     go_region_held3 (fun w' => w'.cell? ⟨q.block, q.off + 2, none⟩ = some (.string y.f2) ∧ w'.cell? ⟨q.block, q.off + 3, none⟩ = some (.string y.f3) ∧ w'.cell? ⟨q.block, q.off + 4, none⟩ = some (.string y.f4) ∧ w'.cell? ⟨q.block, q.off + 5, none⟩ = some (.slice A5 m5 c5)) (first | (with_reducible exact ⟨pw_cell_below HBA.out e2, pw_cell_below HBA.out e3, pw_cell_below HBA.out e4, pw_cell_below HBA.out e5⟩) | (with_reducible exact ⟨pw_cell_below (below_alloc HBA.out _) e2, pw_cell_below (below_alloc HBA.out _) e3, pw_cell_below (below_alloc HBA.out _) e4, pw_cell_below (below_alloc HBA.out _) e5⟩) | (with_reducible exact ⟨e2, e3, e4, e5⟩) | (with_reducible exact ⟨pw_cell_below (below_set5 HBA.out (Nat.le_refl _) _ _ _ _ _) e2, pw_cell_below (below_set5 HBA.out (Nat.le_refl _) _ _ _ _ _) e3, pw_cell_below (below_set5 HBA.out (Nat.le_refl _) _ _ _ _ _) e4, pw_cell_below (below_set5 HBA.out (Nat.le_refl _) _ _ _ _ _) e5⟩) | go_keep) (first | (go_at_call 56; (with_reducible refine (HCL.out _ HBD.out).mono ?_); rintro e wA ⟨vA, rfl, hRA, hbA⟩; have HBA := Aside0.mk (HBD.out.trans (hbA.mono HBD.out.size)); obtain ⟨AA, cA, rfl⟩ := Kd.R_slice hRA; rw [HM5.out] at hRA ⊢; have HRA := Aside0.mk hRA; clear hRA hbA) | (go_at_call 56; (with_reducible refine (HCL.out _ HBE.out).mono ?_); rintro e wA ⟨vA, rfl, hRA, hbA⟩; have hzz := (hbA.block _ (blk_lt HXE.out)).trans HXE.out; have i0 := blk_cell hzz 0; have i1 := blk_cell hzz 1; have i2 := blk_cell hzz 2; have i3 := blk_cell hzz 3; have i4 := blk_cell hzz 4; have k0 := blk_frozen hzz 0; have k1 := blk_frozen hzz 1; have k2 := blk_frozen hzz 2; have k3 := blk_frozen hzz 3; have k4 := blk_frozen hzz 4; have HZZ := Aside0.mk hzz; have HBA := Aside0.mk (HBE.out.trans (hbA.mono HBE.out.size)); obtain ⟨AA, cA, rfl⟩ := Kd.R_slice hRA; rw [HM5.out] at hRA ⊢; have HRA := Aside0.mk hRA; clear hRA hbA hzz))
     all_goals go_wp2_with fail
     ·
      go_meet
      exact ⟨wA.heap.size, AA, cA, rfl, ⟨⟨below_alloc HBA.out _, World.alloc_heap_new wA _, HBA.out.size, Kd.R_alloc (Kd.R_mono (Kd.R_bound HRA.out) (fun k hk => by have := hk.2.2.1; show k ≠ _; omega)) _, Kd.R_nil _ _ _ _ _⟩⟩⟩
     ·
      go_meet
      exact ⟨w2.heap.size, AA, cA, rfl, ⟨⟨below_set5 HBA.out (Nat.le_refl _) _ _ _ _ _, box_set5 HZZ.out _ _ _ _ _, Nat.le_refl _, R_set5 (Kd.R_lower (Kd.R_mono (Kd.R_bound HRA.out) (fun k hk => by have h1 := hk.2.1; have h2 : w2.heap.size + 1 ≤ k := (by simpa using h1); show k ≠ _; omega)) HBE.out.size) (fun _ hk => hk) _ _ _ _ _, Kd.R_nil _ _ _ _ _⟩⟩⟩
  case rest =>
     obtain ⟨b6, AA, cA, rfl, HTA⟩ := hcut
     have z6 := pw_cell_below HTA.out.below e6
     clear HCL HBD HBE HXE HM5 e2 e3 e4 e5
     have hm6 : m6 ≤ 1000000 := by have := HYL.out.2; have := HM6.out; omega
     go_wp2_with fail
     go_loopw [8, 35] (fun _ i wr => ∃ (j : Nat) (v : Value), j ≤ m6 ∧ i = .int .i64 j ∧ Aside0 (TreeAt w2 wr b6 y.f2 y.f3 y.f4 (.slice AA m5 cA) y.f5 v ((y.f6.take j).map (treeF ns k)))) (fun _ i _ => m6 - (intOf i).toNat)
     case atStart => exact ⟨0, .slice none 0 0, Nat.zero_le _, rfl, HTA⟩
     case round =>
      obtain ⟨j, v, hj, rfl, HT1⟩ := hrel
      by_cases hlt : j < m6
      ·
       have hkl : j < y.f6.length := by have := HM6.out; omega
       obtain ⟨aq, rfl, hcell⟩ := Kd.at_int (Kd.C_below HC6.out HT1.out.below) (j : Int) (by omega) (by omega)
       have hx : rd y.f6 (j : Int) = y.f6[j] := by unfold rd; rw [Int.toNat_natCast, List.getD_eq_getElem?_getD, List.getElem?_eq_getElem hkl, Option.getD_some]
       rw [hx, Int.toNat_natCast] at hcell
       have HTK : Aside0 ((y.f6.take (j + 1)).map (treeF ns k) = (y.f6.take j).map (treeF ns k) ++ [treeF ns k y.f6[j]]) := ⟨by rw [List.take_succ_eq_append_getElem hkl, List.map_append]; rfl⟩
       have HIH : Aside0 (∀ W, Sees W g rv nv (some ad) c n ns → Calls Try.prog 45 #[.pointer (some ⟨g, 0, none⟩), .int .i64 y.f6[j]] W fun e w' => ∃ v_ : Value, e = .returned v_ ∧ TreeOut w' W.heap.size (treeF ns k y.f6[j]) v_ ∧ Below W.heap.size W w') := ⟨fun W hW => IH.out y.f6[j] W hW (HYM.out _ (List.getElem_mem _)) (HKD.out _ (List.getElem_mem _))⟩
       obtain ⟨x, hxe⟩ : ∃ x, y.f6[j] = x := ⟨_, rfl⟩
       obtain ⟨T1, hT1⟩ : ∃ T1, treeF ns k x = T1 := ⟨_, rfl⟩
       rw [hxe] at hcell HTK HIH
       rw [hT1] at HTK HIH
       have HL1 : Aside0 ((((y.f6.take j).map (treeF ns k)).length + 1) * 96 ≤ 140737488355328) := ⟨by rw [List.length_map, List.length_take]; have := HYL.out.2; omega⟩
       obtain ⟨l1, hl1⟩ : ∃ l1, (y.f6.take j).map (treeF ns k) = l1 := ⟨_, rfl⟩
       rw [hl1] at HTK HT1 HL1
       have d9 : decide ((j : Int) < (m6 : Int)) = true := decide_eq_true (by omega)
       obtain ⟨Av, cv, rfl⟩ := Kd.R_slice HT1.out.kids
       have s4 : wr.cell? ⟨b6, 4, none⟩ = some (.slice Av l1.length cv) := blk_cell HT1.out.box 4
       clear hx hxe hl1 hT1 hkl
       go_upto_region 6 with (fail)
       have HDT := Aside0.mk (HT1.out.down (below_drew1 (Below.refl _ _)))
       refine start_ (n := 9) (S := fun w' => w'.cell? ⟨b6, 4, none⟩ = some (.slice Av l1.length cv)) (ds := [8]) (bs 9 0) (by kernel_rfl) rfl (by kernel_rfl) s4 (fun hHeld => ?_)
       (refine pure_ (i := 0) (N := (some 39)) (v := ?_) (a' := ?_) (bs 9 1) rfl rfl (by kernel_rfl) (fun _ _ _ h => h) (Or.inl ⟨by rfl, ?_⟩) ?_ ?_; rotate_left; (intro w'; go_simp; with_reducible rfl); rotate_left; (simp only [Act.put, List.setIfInBounds_toArray, List.set_cons_zero, List.set_cons_succ, i64_w, i32_w]; rfl))
       (refine take_ (i := 1) (N := (some 40)) (v := ?_) (a' := ?_) (bs 9 2) rfl rfl (by kernel_rfl) (fun _ _ _ h => h) (Or.inl ⟨by rfl, ?_⟩) hHeld ?_ ?_; rotate_left; (rintro w' s4; go_simp; with_reducible rfl); rotate_left; (simp only [Act.put, List.setIfInBounds_toArray, List.set_cons_zero, List.set_cons_succ, i64_w, i32_w]; rfl))
       (refine pure_ (i := 2) (N := (some 41)) (v := ?_) (a' := ?_) (bs 9 3) rfl rfl (by kernel_rfl) (fun _ _ _ h => h) (Or.inl ⟨by rfl, ?_⟩) ?_ ?_; rotate_left; (intro w'; go_simp; with_reducible rfl); rotate_left; (simp only [Act.put, List.setIfInBounds_toArray, List.set_cons_zero, List.set_cons_succ, i64_w, i32_w]; rfl))
       (refine pure_ (i := 3) (N := (some 42)) (v := ?_) (a' := ?_) (bs 9 4) rfl rfl (by kernel_rfl) (fun _ _ _ h => h) (Or.inl ⟨by rfl, ?_⟩) ?_ ?_; rotate_left; (intro w'; go_simp; with_reducible rfl); rotate_left; (simp only [Act.put, List.setIfInBounds_toArray, List.set_cons_zero, List.set_cons_succ, i64_w, i32_w]; rfl))
       refine one_ (i := 4) (N := (some 43)) (bs 9 5) rfl rfl (by kernel_rfl) (by decide) (fun K hK => ?_)
       refine goes_ Try.func45 (by kernel_rfl) rfl #[.pointer (some ⟨g, 0, none⟩), .int .i64 x] (by rfl) rfl rfl (by (try simp only [List.map_toArray, List.map_cons, List.map_nil]); first | done | rfl) ?_
       refine (HIH.out _ (HS2.out.below HDT.out.below)).mono ?_
       rintro e w7 ⟨v_, rfl, ⟨v3, v4, rfl, hR3, hR4⟩, hb7⟩
       refine ⟨_, rfl, ?_⟩
       have HT7 := Aside0.mk (HDT.out.down hb7)
       have z4 : w7.cell? ⟨b6, 4, none⟩ = some (.slice Av l1.length cv) := blk_cell HT7.out.box 4
       have HM7 : Aside0 (k51.M w7 w2.heap.size (fun k => wr.heap.size ≤ k) T1 [.string T1.f0, .string T1.f1, .string T1.f2, v3, v4]) := ⟨k51_mkM _ _ _ T1 (Kd.R_lower (Kd.R_mono (Kd.R_bound hR3) (fun _ hk => hk.2.1)) HT1.out.below.size) (Kd.R_lower (Kd.R_mono (Kd.R_bound hR4) (fun _ hk => hk.2.1)) HT1.out.below.size)⟩
       have HKL := Aside0.mk (Kd.R_lt HT1.out.kids)
       have HAL := Aside0.mk (Kd.R_lt HT1.out.attrs)
       have HBL : Aside0 (b6 < wr.heap.size) := ⟨blk_lt HT1.out.box⟩
       have HSL : Aside0 (wr.heap.size ≤ w7.heap.size) := ⟨hb7.size⟩
       have HZ4 : Aside0 (∀ o, (w7.alloc o).cell? ⟨b6, 4, none⟩ = some (.slice Av l1.length cv)) := ⟨fun o => pw_cell_below (below_alloc (Below.refl _ _) o) z4⟩
       clear hb7 hR3 hR4
       refine hK.out _ _ z4 (fun hHeld => ?_)
       clear hK K
       (refine norm_ (a' := ?_) ?_ ?_; rotate_left; (show Act.put _ (some 43) _ = _; (simp only [Act.put, List.setIfInBounds_toArray, List.set_cons_zero, List.set_cons_succ, i64_w, i32_w]; rfl)))
       refine one_ (i := 5) (N := (some 44)) (bs 9 6) rfl rfl (by kernel_rfl) (by decide) (fun K hK => ?_)
       (refine value_ (w1 := ?_) (v := ?_) (by rfl) rfl ?_ ?_; rotate_left 2; (go_simp; constructor; rfl; rfl))
       refine hK.out _ _ (HZ4.out _) (fun hHeld => ?_)
       clear hK K
       (refine norm_ (a' := ?_) ?_ ?_; rotate_left; (show Act.put _ (some 44) _ = _; (simp only [Act.put, List.setIfInBounds_toArray, List.set_cons_zero, List.set_cons_succ, i64_w, i32_w]; rfl)))
       refine one_ (i := 6) (N := (some 45)) (bs 9 7) rfl rfl (by kernel_rfl) (by decide) (fun K hK => ?_)
       refine R_append_stepg k51 (w0 := w2) (W := w7) w2.heap.size rfl (.tmp 40) (.tmp 44) 49 51 (.agg #[(.string ⟨#[]⟩), (.string ⟨#[]⟩), (.string ⟨#[]⟩), (.slice none 0 0), (.slice none 0 0)]) 96 rfl Try.underlying49 info51 rfl (by decide) (by decide) (.slice Av l1.length cv) l1 T1 [.string T1.f0, .string T1.f1, .string T1.f2, v3, v4] (fun k => k ≠ b6 ∧ some k ≠ (Value.slice AA m5 cA).ownBlock) (fun k => wr.heap.size ≤ k) rfl (N := w7.heap.size) rfl rfl HM7.out (fun k hk => ⟨⟨by have := HBL.out; omega, fun he => by have := HAL.out k he.symm; omega⟩, fun he => by have := HKL.out k he.symm; omega⟩) (fun k hk => ⟨by have := HBL.out; have := HSL.out; omega, fun he => by have := HAL.out k he.symm; have := HSL.out; omega⟩) HT7.out.kids HT7.out.below (by have := HT1.out.below.size; have := HSL.out; omega) HL1.out rfl ?_
       intro v1 w8 hS1 hb8 hg8
       obtain ⟨A1, c1, rfl⟩ := Kd.R_slice hS1
       have hz8 := blk_grown HT7.out.box hg8 (Kd.R_away HT7.out.kids (fun _ hk => hk.1))
       have q4 : w8.cell? ⟨b6, 4, none⟩ = some (.slice Av l1.length cv) := blk_cell hz8 4
       have zf : w8.frozen? ⟨b6, 4, none⟩ = false := blk_frozen hz8 _
       have HS1 := Aside0.mk hS1
       have HGW := Aside0.mk hg8
       have HB8 := Aside0.mk hb8
       clear hS1 hg8 hb8 hz8
       refine hK.out _ _ q4 (fun hHeld => ?_)
       clear hK K
       (refine norm_ (a' := ?_) ?_ ?_; rotate_left; (show Act.put _ (some 45) _ = _; (simp only [Act.put, List.setIfInBounds_toArray, List.set_cons_zero, List.set_cons_succ, i64_w, i32_w]; rfl)))
       (refine pure_ (i := 7) (N := (some 46)) (v := ?_) (a' := ?_) (bs 9 8) rfl rfl (by kernel_rfl) (fun _ _ _ h => h) (Or.inl ⟨by rfl, ?_⟩) ?_ ?_; rotate_left; (intro w'; go_simp; with_reducible rfl); rotate_left; (simp only [Act.put, List.setIfInBounds_toArray, List.set_cons_zero, List.set_cons_succ, i64_w, i32_w]; rfl))
       refine last_ (i := 8) (N := none) (bs 9 9) rfl rfl (by kernel_rfl) (by decide) (fun K hK => ?_)
       (refine skip_ (w1 := ?_) (by rfl) rfl ?_ ?_; rotate_left; (go_simp; rfl))
       refine hK.out _ _ ?_
       clear hK K
       refine done_ (by kernel_rfl) ?_
       have HFN : Aside0 (TreeAt w2 (w8.setCell ⟨b6, 4, none⟩ (.slice A1 (l1 ++ [T1]).length c1)) b6 y.f2 y.f3 y.f4 (.slice AA m5 cA) y.f5 (.slice A1 (l1 ++ [T1]).length c1) (l1 ++ [T1])) := ⟨HT7.out.put HGW.out HB8.out HS1.out⟩
       rw [List.length_append, List.length_singleton] at HFN
       go_wp2_with fail
       go_round
       case rel => exact ⟨j + 1, _, by omega, by go_num, ⟨by rw [HTK.out]; exact HFN.out⟩⟩
       case measure => simp [intOf]; omega
      ·
       obtain rfl : j = m6 := by omega
       obtain ⟨Av, cv, rfl⟩ := Kd.R_slice HT1.out.kids
       obtain ⟨L1, hL1⟩ : ∃ L1, ((y.f6.take j).map (treeF ns k)).length = L1 := ⟨_, rfl⟩
       rw [hL1] at HT1
       clear hL1
       have d9 : decide ((j : Int) < (j : Int)) = false := decide_eq_false (by omega)
       have i0 : wr.cell? ⟨b6, 0, none⟩ = some (.string y.f2) := blk_cell HT1.out.box 0
       have i1 : wr.cell? ⟨b6, 1, none⟩ = some (.string y.f3) := blk_cell HT1.out.box 1
       have i2 : wr.cell? ⟨b6, 2, none⟩ = some (.string y.f4) := blk_cell HT1.out.box 2
       have i3 : wr.cell? ⟨b6, 3, none⟩ = some (.slice AA m5 cA) := blk_cell HT1.out.box 3
       have i4 : wr.cell? ⟨b6, 4, none⟩ = some (.slice Av L1 cv) := blk_cell HT1.out.box 4
       have hxn := (HT1.out.below.block _ (blk_lt HX2.out)).trans HX2.out
       have u0 := blk_cell hxn 0
       have u1 := blk_cell hxn 1
       have u2 := blk_cell hxn 2
       have u3 := blk_cell hxn 3
       have u4 := blk_cell hxn 4
       have uf : ∀ i, wr.frozen? ⟨N, i, none⟩ = false := fun i => by simp [World.frozen?, hxn]
       have HXN := Aside0.mk hxn
       have HNL : Aside0 (N < w2.heap.size) := ⟨blk_lt HX2.out⟩
       clear hxn
       go_wp2_with fail
       have HFB : Aside0 (Below w.heap.size w (((((wr.setCell ⟨N, 0, none⟩ (.string y.f2)).setCell ⟨N, 1, none⟩ (.string y.f3)).setCell ⟨N, 2, none⟩ (.string y.f4)).setCell ⟨N, 3, none⟩ (.slice AA m5 cA)).setCell ⟨N, 4, none⟩ (.slice Av L1 cv))) := ⟨by rw [HNN.out]; exact below_set5 (HB2.out.trans (HT1.out.below.mono (Nat.le_of_lt HNL.out))) (Nat.le_refl _) _ _ _ _ _⟩
       have hf : ∀ k, (k ≠ b6 ∧ w2.heap.size ≤ k) → k ≠ N := fun k hk => by have := HNL.out; omega
       have hR5 := R_set5 (g := N) (Kd.R_mono (Kd.R_bound HT1.out.attrs) (fun k hk => ⟨hk.1, hk.2.1⟩)) hf (.string y.f2) (.string y.f3) (.string y.f4) (.slice AA m5 cA) (.slice Av L1 cv)
       have hle : w.heap.size ≤ w2.heap.size := by have := HNN.out; have := HNL.out; omega
       have hR7 := R_set5 (g := N) (Kd.R_mono (ok' := fun k => some k ≠ (Value.slice AA m5 cA).ownBlock ∧ (k ≠ b6 ∧ w2.heap.size ≤ k)) (Kd.R_bound HT1.out.kids) (fun k hk => ⟨hk.1.2, hk.1.1, hk.2.1⟩)) (fun k hk => hf k hk.2) (.string y.f2) (.string y.f3) (.string y.f4) (.slice AA m5 cA) (.slice Av L1 cv)
       have HFM : Aside0 (TreeOut (((((wr.setCell ⟨N, 0, none⟩ (.string y.f2)).setCell ⟨N, 1, none⟩ (.string y.f3)).setCell ⟨N, 2, none⟩ (.string y.f4)).setCell ⟨N, 3, none⟩ (.slice AA m5 cA)).setCell ⟨N, 4, none⟩ (.slice Av L1 cv)) w.heap.size T (.agg #[.string y.f2, .string y.f3, .string y.f4, .slice AA m5 cA, .slice Av L1 cv])) := ⟨by
        rw [← HT.out]
        show TreeOut _ _ (⟨y.f2, y.f3, y.f4, y.f5, y.f6.map (treeF ns k)⟩ : S51) _
        rw [show y.f6.map (treeF ns k) = (y.f6.take j).map (treeF ns k) by rw [List.take_of_length_le (by have := HM6.out; omega)]]
        exact ⟨_, _, rfl, Kd.R_lower (Kd.R_mono hR5 (fun _ _ => trivial)) hle, Kd.R_lower (Kd.R_mono hR7 (fun _ hk => hk.1)) hle⟩⟩
       exact bodyPost_ret (results_cell_row rfl _ _ N 51 #[.string y.f2, .string y.f3, .string y.f4, .slice AA m5 cA, .slice Av L1 cv] (0, 0) _ rfl (box_set5 HXN.out _ _ _ _ _) Try.underlying51 rfl (by kernel_rfl)) rfl ⟨_, rfl, HFM.out, HFB.out⟩
end Go.Proofs.Ytleofbidijbahaa.D
