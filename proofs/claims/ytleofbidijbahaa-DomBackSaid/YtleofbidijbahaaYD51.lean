import Derived.Test.YtleofbidijbahaaYD0
import Derived.Test.YtleofbidijbahaaYD5
import Derived.Test.YtleofbidijbahaaYD11
import Derived.Test.YtleofbidijbahaaYD12
import Derived.Test.YtleofbidijbahaaYD30
import Derived.Test.YtleofbidijbahaaYD33
import Derived.Test.YtleofbidijbahaaYD34
import Derived.Test.YtleofbidijbahaaYD49
import Derived.Test.YtleofbidijbahaaYD50
namespace Go.Proofs.Ytleofbidijbahaa.D
open Go.RowKit Go.Proofs.YtleofbidijbahaaW.PrintWords Go.Proofs.YtleofbidijbahaaW.PrintLast Go.Proofs.YtleofbidijbahaaW.PrintMore
attribute [local go_sem] max2_int min2_int max_two min_two max_three min_three max_four min_four   -- for this text's walks alone
set_option linter.unusedVariables false
set_option linter.unusedSimpArgs false
def treeE (s : S28) : Int × S51 :=
 if checkE s.f0 s.f1 s.f2 ≠ 0 then (checkE s.f0 s.f1 s.f2, z51) else if s.f1 = 0 then (71, z51) else if deepF s.f0 8 s.f1 = true then (10, z51) else (0, treeF s.f0 8 s.f1)
def BackT (w : World) (R : Int × S51) (e : Ending) (w' : World) : Prop := ∃ v_ : Value, e = .returned (.tuple #[v_, .int .i64 R.1]) ∧ TreeOut w' w.heap.size R.2 v_ ∧ Below w.heap.size w w'
set_option maxRecDepth 100000 in
set_option maxHeartbeats 8000000 in
theorem treeOf_is (A : Option Addr) (c n : Nat) (ns : List S63) (r nx : Int) (w : World) (hC : Kd.C k63 w A n ns) (hn : ns.length = n) (hkr : ∀ x ∈ ns, ∀ k ∈ x.f6, InI k) :
  Calls Try.prog 20 #[.agg #[.slice A n c, .int .i64 r, .int .i64 nx]] w (BackT w (treeE ⟨ns, r, nx⟩)) := by
 obtain ⟨P, hP⟩ : ∃ P, BackT w (treeE ⟨ns, r, nx⟩) = P := ⟨_, rfl⟩
 rw [hP]
 have HP := Aside0.mk hP
 have HCK := Aside0.mk (fun (W : World) (hW : Below w.heap.size w W) => check_is A c n ns r nx W (Kd.C_below hC hW) hn hkr)
 have HVA : Aside0 (checkE ns r nx = 0 → r ≠ 0 → (∀ x ∈ ns, x.f5.length < 1000000000 ∧ x.f6.length ≤ 1000000) ∧ ValidD ns r nx ∧ (∀ y ∈ ns, ∀ k ∈ y.f6, ∃ x, nodeOf ns k = some x) ∧ ∃ x, nodeOf ns r = some x) := ⟨fun h h0 => by
  have hv := checkE_valid h
  refine ⟨fun x hx => ⟨by have := (plain_attrs (hv.plain x hx)).2; omega, by have := hv.few x hx; omega⟩, hv, fun y hy k hk => ?_, ?_⟩
  ·
   obtain ⟨x, hx, hx0, _⟩ := hv.kids y hy k hk
   exact ⟨x, (nodeOf_iff hv.rises).2 ⟨hx, hx0⟩⟩
  ·
   obtain ⟨x, hx, hx0, _⟩ := hv.root.resolve_left h0
   exact ⟨x, (nodeOf_iff hv.rises).2 ⟨hx, hx0⟩⟩⟩
 have HC := Aside0.mk hC
 have HN := Lib.hid hn
 obtain ⟨ce, hce⟩ : ∃ z, checkE ns r nx = z := ⟨_, rfl⟩
 have HA : Aside0 (treeE ⟨ns, r, nx⟩ = if ce ≠ 0 then (ce, z51) else if r = 0 then (71, z51) else if deepF ns 8 r = true then (10, z51) else (0, treeF ns 8 r)) := ⟨by unfold treeE; simp only [hce]⟩
 rw [hce] at HCK HVA
 clear hP hC hn hkr hce
 obtain ⟨N, hNN⟩ : ∃ N, w.heap.size = N := ⟨_, rfl⟩
 obtain ⟨W1, hW1⟩ : ∃ W, w.alloc (.cells #[.slice A n c, .int .i64 r, .int .i64 nx] 28) = W := ⟨_, rfl⟩
 have hb1 : Below N w W1 := by rw [← hW1, ← hNN]; exact (Below.refl _ _).alloc (Nat.le_refl _) _
 have hx1 : W1.heap[N]? = some (.cells #[.slice A n c, .int .i64 r, .int .i64 nx] 28 (0, 0)) := by rw [← hW1, ← hNN]; exact World.alloc_heap_new w _
 have hs1 : W1.heap.size = N + 1 := by rw [← hW1, ← hNN]; simp
 obtain ⟨W3, hW3⟩ : ∃ W, W1.alloc (.cells #[.string ⟨#[]⟩, .string ⟨#[]⟩, .string ⟨#[]⟩, .slice none 0 0, .slice none 0 0] 51) = W := ⟨_, rfl⟩
 have hb3 : Below W1.heap.size W1 W3 := by rw [← hW3]; exact (Below.refl _ _).alloc (Nat.le_refl _) _
 have hx3 : W3.heap[N + 1]? = some (.cells #[.string ⟨#[]⟩, .string ⟨#[]⟩, .string ⟨#[]⟩, .slice none 0 0, .slice none 0 0] 51 (0, 0)) := by rw [← hW3, ← hs1]; exact World.alloc_heap_new W1 _
 have hs3 : W3.heap.size = N + 2 := by rw [← hW3]; simp [hs1]
 have hx1' := (hb3.block _ (blk_lt hx1)).trans hx1
 have hb13 : Below N w W3 := hb1.trans (hb3.mono (by omega))
 have s0 : W3.cell? ⟨N, 0, none⟩ = some (.slice A n c) := blk_cell hx1' 0
 have s1 : W3.cell? ⟨N, 1, none⟩ = some (.int .i64 r) := blk_cell hx1' 1
 have s2 : W3.cell? ⟨N, 2, none⟩ = some (.int .i64 nx) := blk_cell hx1' 2
 have HX1 := Aside0.mk hx1'
 have HX3 := Aside0.mk hx3
 have HB3 := Aside0.mk hb13
 have HS3 := Aside0.mk hs3
 have HNN := Lib.hid hNN
 rw [hNN] at HCK
 clear hb1 hx1 hb3 hx3 hx1' hb13 hs3
 have HPE : Aside0 (∀ (W : World) (z : Int) (T : S51) (v3 v4 : Value), Kd.R k68 68 W N (fun k => N + 2 ≤ k) v3 T.f3 → Kd.R k51 51 W N (fun k => some k ≠ v3.ownBlock ∧ N + 2 ≤ k) v4 T.f4 → Below N w W → W.heap[N + 1]? = some (.cells #[.string ⟨#[]⟩, .string ⟨#[]⟩, .string ⟨#[]⟩, .slice none 0 0, .slice none 0 0] 51 (0, 0)) → (((((W.setCell ⟨N + 1, 0, none⟩ (.string T.f0)).setCell ⟨N + 1, 1, none⟩ (.string T.f1)).setCell ⟨N + 1, 2, none⟩ (.string T.f2)).setCell ⟨N + 1, 3, none⟩ v3).setCell ⟨N + 1, 4, none⟩ v4).heap[N + 1]? = some (.cells #[.string T.f0, .string T.f1, .string T.f2, v3, v4] 51 (0, 0)) ∧ BackT w (z, T) (.returned (.tuple #[.agg #[.string T.f0, .string T.f1, .string T.f2, v3, v4], .int .i64 z])) (((((W.setCell ⟨N + 1, 0, none⟩ (.string T.f0)).setCell ⟨N + 1, 1, none⟩ (.string T.f1)).setCell ⟨N + 1, 2, none⟩ (.string T.f2)).setCell ⟨N + 1, 3, none⟩ v3).setCell ⟨N + 1, 4, none⟩ v4)) := ⟨fun W z T v3 v4 h3 h4 hb hx => by
  refine ⟨box_set5 hx _ _ _ _ _, _, rfl, ⟨v3, v4, rfl, ?_, ?_⟩, ?_⟩
  ·
   rw [HNN.out]
   exact Kd.R_mono (R_set5 (g := N + 1) h3 (fun k hk => by omega) _ _ _ _ _) (fun _ _ => trivial)
  ·
   rw [HNN.out]
   exact Kd.R_mono (R_set5 (g := N + 1) h4 (fun k hk => by have := hk.2; omega) _ _ _ _ _) (fun _ hk => hk.1)
  ·
   rw [HNN.out]
   exact below_set5 hb (by omega) _ _ _ _ _⟩
 have HZE : Aside0 (∀ (W : World) (z : Int), Below N w W → W.heap[N + 1]? = some (.cells #[.string ⟨#[]⟩, .string ⟨#[]⟩, .string ⟨#[]⟩, .slice none 0 0, .slice none 0 0] 51 (0, 0)) → (((((W.setCell ⟨N + 1, 0, none⟩ (.string ⟨#[]⟩)).setCell ⟨N + 1, 1, none⟩ (.string ⟨#[]⟩)).setCell ⟨N + 1, 2, none⟩ (.string ⟨#[]⟩)).setCell ⟨N + 1, 3, none⟩ (.slice none 0 0)).setCell ⟨N + 1, 4, none⟩ (.slice none 0 0)).heap[N + 1]? = some (.cells #[.string ⟨#[]⟩, .string ⟨#[]⟩, .string ⟨#[]⟩, .slice none 0 0, .slice none 0 0] 51 (0, 0)) ∧ BackT w (z, z51) (.returned (.tuple #[.agg #[.string ⟨#[]⟩, .string ⟨#[]⟩, .string ⟨#[]⟩, .slice none 0 0, .slice none 0 0], .int .i64 z])) (((((W.setCell ⟨N + 1, 0, none⟩ (.string ⟨#[]⟩)).setCell ⟨N + 1, 1, none⟩ (.string ⟨#[]⟩)).setCell ⟨N + 1, 2, none⟩ (.string ⟨#[]⟩)).setCell ⟨N + 1, 3, none⟩ (.slice none 0 0)).setCell ⟨N + 1, 4, none⟩ (.slice none 0 0))) := ⟨fun W z hb hx => HPE.out W z z51 (.slice none 0 0) (.slice none 0 0) (Kd.R_nil _ _ _ _ _) (Kd.R_nil _ _ _ _ _) hb hx⟩
 go_enter Try.func20, Try.ntmps20
 go_wp2_with fail
 refine (HCK.out _ HB3.out).mono ?_
 rintro e w4 ⟨rfl, hb4⟩
 have HB4 := Aside0.mk (HB3.out.trans (hb4.mono (show N ≤ W3.heap.size by have := HS3.out; omega)))
 have hx1 := (hb4.block _ (blk_lt HX1.out)).trans HX1.out
 have hx3 := (hb4.block _ (blk_lt HX3.out)).trans HX3.out
 have HX14 := Aside0.mk hx1
 have HX34 := Aside0.mk hx3
 have s0 : w4.cell? ⟨N, 0, none⟩ = some (.slice A n c) := blk_cell hx1 0
 have s1 : w4.cell? ⟨N, 1, none⟩ = some (.int .i64 r) := blk_cell hx1 1
 have s2 : w4.cell? ⟨N, 2, none⟩ = some (.int .i64 nx) := blk_cell hx1 2
 have t0 : w4.cell? ⟨N + 1, 0, none⟩ = some (.string ⟨#[]⟩) := blk_cell hx3 0
 have t1 : w4.cell? ⟨N + 1, 1, none⟩ = some (.string ⟨#[]⟩) := blk_cell hx3 1
 have t2 : w4.cell? ⟨N + 1, 2, none⟩ = some (.string ⟨#[]⟩) := blk_cell hx3 2
 have t3 : w4.cell? ⟨N + 1, 3, none⟩ = some (.slice none 0 0) := blk_cell hx3 3
 have t4 : w4.cell? ⟨N + 1, 4, none⟩ = some (.slice none 0 0) := blk_cell hx3 4
 have f0 : ∀ i, w4.frozen? ⟨N + 1, i, none⟩ = false := fun i => blk_frozen hx3 _
 have HSZ : Aside0 (N + 2 ≤ w4.heap.size) := ⟨by have := hb4.size; have := HS3.out; omega⟩
 clear hb4 hx1 hx3 HX1 HX3
 by_cases h0 : ce = 0
 ·
  have d0 : (ce != 0) = false := by rw [h0]; rfl
  have HVB := Aside0.mk (HVA.out h0)
  have ha := HA.out
  rw [if_neg (fun h => h h0)] at ha
  clear HVA HA
  by_cases hr : r = 0
  ·
   rw [if_pos hr] at ha
   have HV := Aside0.mk ha
   have d1 : (r == 0) = true := by rw [hr]; rfl
   clear ha
   have HX := Aside0.mk (HZE.out w4 71 HB4.out HX34.out)
   go_wp2_with fail
   exact bodyPost_ret (results_ct rfl _ _ (N + 1) 51 #[.string ⟨#[]⟩, .string ⟨#[]⟩, .string ⟨#[]⟩, .slice none 0 0, .slice none 0 0] (0, 0) _ rfl HX.out.1 Try.underlying51 rfl (by kernel_rfl)) rfl (by rw [← HP.out, HV.out]; exact HX.out.2)
  ·
   rw [if_neg hr] at ha
   obtain ⟨hel9, hv, hall, hrt⟩ := HVB.out hr
   have HEL := Aside0.mk hel9
   clear hel9
   have d1 : (r == 0) = false := by simpa using hr
   have HALL := Aside0.mk hall
   have HRT := Aside0.mk hrt
   have HS4 : Aside0 (Sees w4 N (.int .i64 r) (.int .i64 nx) A c n ns) := ⟨⟨HX14.out, Kd.C_below HC.out (HNN.out ▸ HB4.out), HN.out, by have := hv.len; have := HN.out; omega, hv.rises⟩⟩
   have HDP := Aside0.mk (deep_is N (.int .i64 r) (.int .i64 nx) A c n ns HALL.out 8 r w4 (Nat.le_refl _) HS4.out HRT.out)
   have e91 : (9 - ((8 : Nat) : Int)) = 1 := rfl
   rw [e91] at HDP
   have HTR : Aside0 (deepF ns 8 r = false → ∀ W, Below w4.heap.size w4 W → Calls Try.prog 45 #[.pointer (some ⟨N, 0, none⟩), .int .i64 r] W fun e w' => ∃ v_ : Value, e = .returned v_ ∧ TreeOut w' W.heap.size (treeF ns 8 r) v_ ∧ Below W.heap.size W w') := ⟨fun hd W hW => tree_is N (.int .i64 r) (.int .i64 nx) A c n ns HALL.out HEL.out 8 r W (HS4.out.below hW) HRT.out hd⟩
   obtain ⟨q, hq⟩ : ∃ q, deepF ns 8 r = q := ⟨_, rfl⟩
   obtain ⟨T, hT⟩ : ∃ T, treeF ns 8 r = T := ⟨_, rfl⟩
   rw [hq] at HDP HTR ha
   rw [hT] at HTR ha
   have HA2 := Aside0.mk ha
   clear hv hall hrt ha hT hq e91
   go_wp2_with fail
   refine HDP.out.mono ?_
   rintro e w5 ⟨rfl, hb5⟩
   have HB5 := Aside0.mk (HB4.out.trans (hb5.mono (show N ≤ w4.heap.size by have := HSZ.out; omega)))
   have HB45 := Aside0.mk hb5
   have hx1 := (hb5.block _ (blk_lt HX14.out)).trans HX14.out
   have hx3 := (hb5.block _ (blk_lt HX34.out)).trans HX34.out
   have HX35 := Aside0.mk hx3
   have s0 : w5.cell? ⟨N, 0, none⟩ = some (.slice A n c) := blk_cell hx1 0
   have s1 : w5.cell? ⟨N, 1, none⟩ = some (.int .i64 r) := blk_cell hx1 1
   have s2 : w5.cell? ⟨N, 2, none⟩ = some (.int .i64 nx) := blk_cell hx1 2
   have t0 : w5.cell? ⟨N + 1, 0, none⟩ = some (.string ⟨#[]⟩) := blk_cell hx3 0
   have t1 : w5.cell? ⟨N + 1, 1, none⟩ = some (.string ⟨#[]⟩) := blk_cell hx3 1
   have t2 : w5.cell? ⟨N + 1, 2, none⟩ = some (.string ⟨#[]⟩) := blk_cell hx3 2
   have t3 : w5.cell? ⟨N + 1, 3, none⟩ = some (.slice none 0 0) := blk_cell hx3 3
   have t4 : w5.cell? ⟨N + 1, 4, none⟩ = some (.slice none 0 0) := blk_cell hx3 4
   have f1 : ∀ i, w5.frozen? ⟨N + 1, i, none⟩ = false := fun i => blk_frozen hx3 _
   clear hb5 hx1 hx3
   cases q with
   | true =>
    have HV : Aside0 (treeE ⟨ns, r, nx⟩ = (10, z51)) := ⟨by rw [HA2.out]; rfl⟩
    have HX := Aside0.mk (HZE.out w5 10 HB5.out HX35.out)
    go_wp2_with fail
    exact bodyPost_ret (results_ct rfl _ _ (N + 1) 51 #[.string ⟨#[]⟩, .string ⟨#[]⟩, .string ⟨#[]⟩, .slice none 0 0, .slice none 0 0] (0, 0) _ rfl HX.out.1 Try.underlying51 rfl (by kernel_rfl)) rfl (by rw [← HP.out, HV.out]; exact HX.out.2)
   | false =>
    have HV : Aside0 (treeE ⟨ns, r, nx⟩ = (0, T)) := ⟨by rw [HA2.out]; rfl⟩
    have HTR2 := Aside0.mk (HTR.out rfl)
    go_wp2_with fail
    refine (HTR2.out _ HB45.out).mono ?_
    rintro e w6 ⟨v_, rfl, ⟨v3, v4, rfl, hR3, hR4⟩, hb6⟩
    obtain ⟨A3, c3, rfl⟩ := Kd.R_slice hR3
    obtain ⟨A4, c4, rfl⟩ := Kd.R_slice hR4
    have hsz5 : N + 2 ≤ w5.heap.size := by have := HB45.out.size; have := HSZ.out; omega
    have hR3' := Kd.R_lower (Kd.R_mono (ok' := fun k => N + 2 ≤ k) (Kd.R_bound hR3) (fun k hk => by have := hk.2.1; omega)) (show N ≤ w5.heap.size by omega)
    have hR4' := Kd.R_lower (Kd.R_mono (ok' := fun k => some k ≠ (Value.slice A3 T.f3.length c3).ownBlock ∧ N + 2 ≤ k) (Kd.R_bound hR4) (fun k hk => ⟨hk.1, by have := hk.2.1; omega⟩)) (show N ≤ w5.heap.size by omega)
    have hx3 := (hb6.block _ (blk_lt HX35.out)).trans HX35.out
    have HX := Aside0.mk (HPE.out w6 0 T _ _ hR3' hR4' (HB5.out.trans (hb6.mono (by omega))) hx3)
    have t0 : w6.cell? ⟨N + 1, 0, none⟩ = some (.string ⟨#[]⟩) := blk_cell hx3 0
    have t1 : w6.cell? ⟨N + 1, 1, none⟩ = some (.string ⟨#[]⟩) := blk_cell hx3 1
    have t2 : w6.cell? ⟨N + 1, 2, none⟩ = some (.string ⟨#[]⟩) := blk_cell hx3 2
    have t3 : w6.cell? ⟨N + 1, 3, none⟩ = some (.slice none 0 0) := blk_cell hx3 3
    have t4 : w6.cell? ⟨N + 1, 4, none⟩ = some (.slice none 0 0) := blk_cell hx3 4
    have f2 : ∀ i, w6.frozen? ⟨N + 1, i, none⟩ = false := fun i => blk_frozen hx3 _
    clear hb6 hR3 hR4 hR3' hR4' hx3 hsz5
    obtain ⟨m3, hm3⟩ : ∃ m, T.f3.length = m := ⟨_, rfl⟩
    obtain ⟨m4, hm4⟩ : ∃ m, T.f4.length = m := ⟨_, rfl⟩
    rw [hm3, hm4] at HX ⊢
    clear hm3 hm4
    go_wp2_with fail
    exact bodyPost_ret (results_ct rfl _ _ (N + 1) 51 #[.string T.f0, .string T.f1, .string T.f2, .slice A3 m3 c3, .slice A4 m4 c4] (0, 0) _ rfl HX.out.1 Try.underlying51 rfl (by kernel_rfl)) rfl (by rw [← HP.out, HV.out]; exact HX.out.2)
 ·
  have d0 : (ce != 0) = true := by simpa using h0
  have HV : Aside0 (treeE ⟨ns, r, nx⟩ = (ce, z51)) := ⟨by rw [HA.out, if_pos h0]⟩
  have HX := Aside0.mk (HZE.out w4 ce HB4.out HX34.out)
  go_wp2_with fail
  exact bodyPost_ret (results_ct rfl _ _ (N + 1) 51 #[.string ⟨#[]⟩, .string ⟨#[]⟩, .string ⟨#[]⟩, .slice none 0 0, .slice none 0 0] (0, 0) _ rfl HX.out.1 Try.underlying51 rfl (by kernel_rfl)) rfl (by rw [← HP.out, HV.out]; exact HX.out.2)
def dom_Tree.f (l0_0 : List S63) (a0_1 a0_2 : Int) : Option (ByteArray × ByteArray × ByteArray × List S68 × List S51 × Int) :=
 if (∀ x ∈ l0_0, ∀ k ∈ x.f6, -9223372036854775808 ≤ k ∧ k ≤ 9223372036854775807) then some ((treeE ⟨l0_0, a0_1, a0_2⟩).2.f0, (treeE ⟨l0_0, a0_1, a0_2⟩).2.f1, (treeE ⟨l0_0, a0_1, a0_2⟩).2.f2, (treeE ⟨l0_0, a0_1, a0_2⟩).2.f3, (treeE ⟨l0_0, a0_1, a0_2⟩).2.f4, (treeE ⟨l0_0, a0_1, a0_2⟩).1) else none
theorem dom_Tree.calls (A0_0 : Option Addr) (c0_0 : Nat) (l0_0 : List S63) (a0_1 a0_2 : Int) (r1 r2 r3 : ByteArray) (r4 : List S68) (r5 : List S51) (r6 : Int) (w : World) (hr0_0 : Kd.C k63 w A0_0 l0_0.length l0_0) (hc0_0 : l0_0.length ≤ c0_0) (h : dom_Tree.f l0_0 a0_1 a0_2 = some (r1, r2, r3, r4, r5, r6)) :
  Calls Try.prog 20 #[.agg #[.slice A0_0 l0_0.length c0_0, .int .i64 a0_1, .int .i64 a0_2]] w fun e w' => ∃ v3_ v4_ : Value, e = .returned (.tuple #[.agg #[.string r1, .string r2, .string r3, v3_, v4_], .int .i64 r6]) ∧ Kd.R k68 68 w' w.heap.size (fun _ => True) v3_ r4 ∧ Kd.R k51 51 w' w.heap.size (fun k_ => some k_ ≠ (v3_ : Value).ownBlock) v4_ r5 ∧ Below w.heap.size w w' := by
 unfold dom_Tree.f at h
 split at h
 ·
  rename_i hk
  injection h with h
  injection h with h1 h
  injection h with h2 h
  injection h with h3 h
  injection h with h4 h
  injection h with h5 h6
  subst h1 h2 h3 h4 h5 h6
  refine (treeOf_is A0_0 c0_0 _ l0_0 a0_1 a0_2 w hr0_0 rfl hk).mono ?_
  rintro e w' ⟨_, rfl, ⟨v3, v4, rfl, g3, g4⟩, hb⟩
  exact ⟨v3, v4, rfl, g3, g4, hb⟩
 ·
  cases h
end Go.Proofs.Ytleofbidijbahaa.D
