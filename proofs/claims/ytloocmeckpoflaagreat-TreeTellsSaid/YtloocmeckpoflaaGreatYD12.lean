import Derived.Test.YtloocmeckpoflaaGreatYD0
import Derived.Test.YtloocmeckpoflaaGreatYD10
namespace Go.Proofs.YtloocmeckpoflaaGreat.D
open Go.RowKit Go.Proofs.YtloocmeckpoflaaGreatW.PrintWords Go.Proofs.YtloocmeckpoflaaGreatW.PrintLast Go.Proofs.YtloocmeckpoflaaGreatW.PrintMore
attribute [local go_sem] max2_int min2_int max_two min_two max_three min_three max_four min_four   -- for this text's walks alone
set_option linter.unusedVariables false
set_option linter.unusedSimpArgs false
def dupK : List ByteArray → List S25 → Bool
 | _, [] => false
 | seen, k :: ks => (!k.f1.toList.isEmpty && seen.any (fun s => s.toList == k.f1.toList)) || dupK (k.f1 :: seen) ks
def nodeE (nodes : Int) (t : S25) (level : Int) : Int :=
 if 8 < level then 10 else if nodes = 256 then 3 else if plainB t.f0 t.f1 t.f2 t.f3 = false ∨ 16 < t.f4.length ∨ t.f0.toList.isEmpty = true ∧ 0 < t.f4.length then 9 else if dupK [] t.f4 = true then 6 else 0
mutual
def walkT : S25 → Int → Int × Int × Int → Int × Int × Int
 | ⟨f0, f1, f2, f3, f4⟩, level, st => if st.2.2 = 0 then (if nodeE st.1 ⟨f0, f1, f2, f3, f4⟩ level = 0 then walkL f4 (level + 1) (st.1 + 1, mx st.2.1 level, 0) else (st.1, st.2.1, nodeE st.1 ⟨f0, f1, f2, f3, f4⟩ level)) else st
def walkL : List S25 → Int → Int × Int × Int → Int × Int × Int
 | [], _, st => st
 | t :: ts, level, st => walkL ts level (walkT t level st)
end
mutual
def okT : S25 → Bool
 | ⟨_, _, _, _, f4⟩ => okL f4
def okL : List S25 → Bool
 | [] => true
 | t :: ts => decide (t.f1.size ≤ maxLen) && (okT t && okL ts)
end
def KeySet (W : World) (b n : Nat) (seen : List ByteArray) : Prop :=
 ∃ D : DataW Unit, W.ownsMap Tryz.prog 9 (plainElem Tryz.prog 4) b n D ∧ Maps.IsMap D ∧ ∀ s : ByteArray, D.atKey (.string s.data.toList) (.lit (.bool false)) = .lit (.bool (seen.any fun x => x.toList == s.toList))
theorem plainElem_bool_inv {P : Program} {e : TypeId} (he : P.underlying e = some .bool) {v : Value} {c : Bool} {ps : List MemPlace} (h : plainElem (H := Unit) P e v = some (.lit (.bool c), ps)) : v = .bool c := by
 unfold plainElem at h
 rw [he] at h
 cases v with
 | bool x =>
  simp only [Option.some.injEq, Prod.mk.injEq, DataW.lit.injEq, Lit.bool.injEq] at h
  rw [h.1]
 | _ => simp at h
theorem KeySet.made (W : World) : KeySet (W.alloc (.map #[] 0)) W.heap.size 0 [] :=
 ⟨.map [], World.ownsMap_made _ _ _ _, (World.ownsMap_made W Tryz.prog 9 (plainElem (H := Unit) Tryz.prog 4)).isMap, fun s => rfl⟩
theorem keyS {s : ByteArray} (hs : s.size ≤ maxLen) : keyOf Tryz.prog 9 (.string s) = some (.string s.data.toList) := Go.WideMaps.keyOf_string_mk Tryz.underlying9 hs
theorem KeySet.look {W : World} {b n : Nat} {seen : List ByteArray} (h : KeySet W b n seen) {s : ByteArray} (hs : s.size ≤ maxLen) :
  (Instr.lookup 94 (.map (some b)) (.string s) false).run Tryz.prog W = .ok (.bool (seen.any fun x => x.toList == s.toList)) W := by
 obtain ⟨D, ho, _, hD⟩ := h
 have hz : (zeroValue 4).run Tryz.prog W = .ok (.bool false) W := by kernel_rfl
 obtain ⟨v, ps, hrun, hv⟩ := ho.lookup (Maps.string_keyed Tryz.underlying9) Tryz.underlying94 hz (plainElem_bool Tryz.underlying4 false) (keyS hs)
 rw [hD] at hv
 obtain ⟨c, hc⟩ : ∃ c, (seen.any fun x => x.toList == s.toList) = c := ⟨_, rfl⟩
 rw [hc] at hv ⊢
 have hv2 : v = .bool c := plainElem_bool_inv Tryz.underlying4 hv
 rw [hrun, hv2]
theorem KeySet.kept {W W' : World} {b n : Nat} {seen : List ByteArray} (h : KeySet W b n seen) {row : Option Nat} (hg : W.grownBy W' row) (hne : some b ≠ row) : KeySet W' b n seen := by
 obtain ⟨D, ho, hm, hD⟩ := h
 exact ⟨D, ho.kept hg hne, hm, hD⟩
theorem KeySet.below {W W' : World} {b n : Nat} {seen : List ByteArray} (h : KeySet W b n seen) (hb : Below W.heap.size W W') : KeySet W' b n seen :=
 h.kept (row := none) ⟨hb.os, hb.tape, hb.output, hb.size, fun i hi _ => hb.block i hi⟩ (by simp)
theorem lit_inj {s t : ByteArray} : (Lit.string s.data.toList = Lit.string t.data.toList) ↔ s.toList = t.toList := by
 constructor
 ·
  intro h
  injection h with h
  rw [ByteArray.toList_eq, ByteArray.toList_eq, h]
 ·
  intro h
  rw [ByteArray.toList_eq, ByteArray.toList_eq] at h
  rw [h]
theorem KeySet.put {D : DataW Unit} {seen : List ByteArray} (hm : Maps.IsMap D) (hD : ∀ s : ByteArray, D.atKey (.string s.data.toList) (.lit (.bool false)) = .lit (.bool (seen.any fun x => x.toList == s.toList))) (k s : ByteArray) :
  (D.put (.string k.data.toList) (.lit (.bool true))).atKey (.string s.data.toList) (.lit (.bool false)) = .lit (.bool ((k :: seen).any fun x => x.toList == s.toList)) := by
 by_cases h : s.toList = k.toList
 ·
  rw [lit_inj.2 h, Maps.atKey_put_same hm (by trivial), List.any_cons, h]
  simp
 ·
  rw [Maps.atKey_put_other (fun e => h (lit_inj.1 e)), hD, List.any_cons]
  have : (k.toList == s.toList) = false := beq_eq_false_iff_ne.2 (fun e => h e.symm)
  rw [this, Bool.false_or]
theorem okL_get : ∀ (l : List S25) (j : Nat) (h : j < l.length), okL l = true → l[j].f1.size ≤ maxLen ∧ okT l[j] = true
 | t :: ts, 0, _, h => by
  unfold okL at h
  simp only [Bool.and_eq_true, decide_eq_true_eq] at h
  exact ⟨h.1, h.2.1⟩
 | t :: ts, j + 1, h, hk => by
  unfold okL at hk
  simp only [Bool.and_eq_true, decide_eq_true_eq] at hk
  exact okL_get ts j (by simpa using h) hk.2.2
theorem below_grown {w W W1 : World} {B b : Nat} (h : Below B w W) (hg : W.grownBy W1 (some b)) (hB : B ≤ b) (hs : B ≤ W.heap.size) : Below B w W1 :=
 h.grown hg hs (fun k e => by cases e; exact hB)
set_option maxRecDepth 100000 in
set_option maxHeartbeats 4000000 in
theorem node_is (g : Nat) (nodes deep err : Int) (t : S25) (A3 : Option Addr) (c3 : Nat) (A4 : Option Addr) (c4 : Nat) (level : Int) (w : World) (hg : w.heap[g]? = some (.cells #[.int .i64 nodes, .int .i64 deep, .int .i64 err] 43 (0, 0)))
  (hr3 : Kd.C k91 w A3 t.f3.length t.f3) (hc3 : t.f3.length ≤ c3) (hr4 : Kd.C k25 w A4 t.f4.length t.f4) (hok : okL t.f4 = true) :
  Calls Tryz.prog 33 #[.pointer (some ⟨g, 0, none⟩), .agg #[.string t.f0, .string t.f1, .string t.f2, .slice A3 t.f3.length c3, .slice A4 t.f4.length c4], .int .i64 level] w fun e w' => e = .returned (.int .i64 (nodeE nodes t level)) ∧ Below w.heap.size w w' := by
 obtain ⟨W1, hW1⟩ : ∃ W, w.alloc (.cells #[.string t.f0, .string t.f1, .string t.f2, .slice A3 t.f3.length c3, .slice A4 t.f4.length c4] 25) = W := ⟨_, rfl⟩
 have hb1 : Below w.heap.size w W1 := by rw [← hW1]; exact below_alloc (Below.refl _ _) _
 have hx1 : W1.heap[w.heap.size]? = some (.cells #[.string t.f0, .string t.f1, .string t.f2, .slice A3 t.f3.length c3, .slice A4 t.f4.length c4] 25 (0, 0)) := by rw [← hW1]; exact blk_new rfl
 have HX1 := Aside0.mk hx1
 have HB1 := Aside0.mk hb1
 have HPL := Aside0.mk (tree_Plain.calls t.f0 t.f1 t.f2 A3 c3 t.f3 (plainB t.f0 t.f1 t.f2 t.f3) W1 (Kd.C_below hr3 hb1) hc3 rfl)
 have HR4 := Aside0.mk hr4
 have HOK := Aside0.mk hok
 have y0 : W1.cell? ⟨g, 0, none⟩ = some (.int .i64 nodes) := blk_cell (blk_below hg hb1) 0
 obtain ⟨R, hR⟩ : ∃ R, nodeE nodes t level = R := ⟨_, rfl⟩
 have hRv := hR
 unfold nodeE at hRv
 obtain ⟨n3, hn3⟩ : ∃ n, t.f3.length = n := ⟨_, rfl⟩
 obtain ⟨n4, hn4⟩ : ∃ n, t.f4.length = n := ⟨_, rfl⟩
 have HN3 := Lib.hid hn3
 have HN4 := Lib.hid hn4
 obtain ⟨q, hq⟩ : ∃ q, plainB t.f0 t.f1 t.f2 t.f3 = q := ⟨_, rfl⟩
 rw [hq] at HPL hRv
 rw [hn4] at hRv
 rw [hn3, hn4] at hW1 HX1
 rw [hn3] at HPL
 rw [hR, hn3, hn4]
 have x0 : W1.cell? ⟨w.heap.size, 0, none⟩ = some (.string t.f0) := blk_cell HX1.out 0
 have x1 : W1.cell? ⟨w.heap.size, 1, none⟩ = some (.string t.f1) := blk_cell HX1.out 1
 have x2 : W1.cell? ⟨w.heap.size, 2, none⟩ = some (.string t.f2) := blk_cell HX1.out 2
 have x3 : W1.cell? ⟨w.heap.size, 3, none⟩ = some (.slice A3 n3 c3) := blk_cell HX1.out 3
 have x4 : W1.cell? ⟨w.heap.size, 4, none⟩ = some (.slice A4 n4 c4) := blk_cell HX1.out 4
 clear hb1 hx1 hr3 hc3 hr4 hok hg hR hn3 hn4 hq
 by_cases h1 : 8 < level
 ·
  rw [if_pos h1] at hRv
  have HV := Lib.hid hRv
  have d1 : decide (level > 8) = true := decide_eq_true h1
  clear hRv HPL
  go_enter Tryz.func33, Tryz.ntmps33
  go_wp2_with fail
  go_ret
  exact ⟨by rw [← HV.out]; rfl, HB1.out⟩
 ·
  rw [if_neg h1] at hRv
  have d1 : decide (level > 8) = false := decide_eq_false h1
  by_cases h2 : nodes = 256
  ·
   rw [if_pos h2] at hRv
   have HV := Lib.hid hRv
   subst h2
   clear hRv HPL
   go_enter Tryz.func33, Tryz.ntmps33
   go_wp2_with fail
   go_ret
   exact ⟨by rw [← HV.out]; rfl, HB1.out⟩
  ·
   rw [if_neg h2] at hRv
   have d2 : (nodes == 256) = false := beq_eq_false_iff_ne.mpr h2
   cases q with
   | false =>
    rw [if_pos (.inl rfl)] at hRv
    have HV := Lib.hid hRv
    clear hRv
    go_enter Tryz.func33, Tryz.ntmps33
    go_wp2_with (go_at_call 44; refine HPL.out.mono ?_; rintro e w2 ⟨rfl, hb2⟩; have HB2 := Aside0.mk (HB1.out.trans (hb2.mono HB1.out.size)); clear hb2)
    go_ret
    exact ⟨by rw [← HV.out]; rfl, HB2.out⟩
   | true =>
    by_cases h3 : 16 < n4
    ·
     rw [if_pos (.inr (.inl h3))] at hRv
     have HV := Lib.hid hRv
     have d3 : decide ((n4 : Int) > 16) = true := decide_eq_true (by omega)
     clear hRv
     go_enter Tryz.func33, Tryz.ntmps33
     go_wp2_with fail
     refine HPL.out.mono ?_
     rintro e w2 ⟨rfl, hb2⟩
     have HB2 := Aside0.mk (HB1.out.trans (hb2.mono HB1.out.size))
     have x4 : w2.cell? ⟨w.heap.size, 4, none⟩ = some (.slice A4 n4 c4) := blk_cell (blk_below HX1.out hb2) 4
     clear hb2
     go_wp2_with fail
     go_ret
     exact ⟨by rw [← HV.out]; rfl, HB2.out⟩
    ·
     have d3 : decide ((n4 : Int) > 16) = false := decide_eq_false (by omega)
     cases hE : t.f0.toList.isEmpty with
     | true =>
      by_cases h5 : 0 < n4
      ·
       rw [hE, if_pos (.inr (.inr ⟨rfl, h5⟩))] at hRv
       have HV := Lib.hid hRv
       have d5 : decide ((n4 : Int) > 0) = true := decide_eq_true (by omega)
       clear hRv
       go_enter Tryz.func33, Tryz.ntmps33
       go_wp2_with fail
       refine HPL.out.mono ?_
       rintro e w2 ⟨rfl, hb2⟩
       have HB2 := Aside0.mk (HB1.out.trans (hb2.mono HB1.out.size))
       have x0 : w2.cell? ⟨w.heap.size, 0, none⟩ = some (.string t.f0) := blk_cell (blk_below HX1.out hb2) 0
       have x4 : w2.cell? ⟨w.heap.size, 4, none⟩ = some (.slice A4 n4 c4) := blk_cell (blk_below HX1.out hb2) 4
       clear hb2
       go_wp2_with fail
       go_ret
       exact ⟨by rw [← HV.out]; rfl, HB2.out⟩
      ·
       have d5 : decide ((n4 : Int) > 0) = false := decide_eq_false (by omega)
       rw [if_neg (by rintro (h | h | h) <;> first | cases h; done | omega)] at hRv
       have HRV := Lib.hid hRv
       clear hRv
       have hmm := @run_makeMap Tryz.prog
       go_enter Tryz.func33, Tryz.ntmps33
       go_wp2_with fail
       refine HPL.out.mono ?_
       rintro e w2 ⟨rfl, hb2⟩
       have HB2 := Aside0.mk (HB1.out.trans (hb2.mono HB1.out.size))
       have HX2 := Aside0.mk (blk_below HX1.out hb2)
       have x0 : w2.cell? ⟨w.heap.size, 0, none⟩ = some (.string t.f0) := blk_cell HX2.out 0
       have x4 : w2.cell? ⟨w.heap.size, 4, none⟩ = some (.slice A4 n4 c4) := blk_cell HX2.out 4
       obtain ⟨W3, hW3⟩ : ∃ W, w2.alloc (.map #[] 0) = W := ⟨_, rfl⟩
       obtain ⟨B, hB⟩ : ∃ B, w2.heap.size = B := ⟨_, rfl⟩
       have hal := below_alloc (Below.refl w2.heap.size w2) (.map #[] 0)
       have hks := KeySet.made w2
       rw [hW3] at hal hks
       have HB3 := Aside0.mk (HB2.out.trans (hal.mono HB2.out.size))
       have x4' : W3.cell? ⟨w.heap.size, 4, none⟩ = some (.slice A4 n4 c4) := blk_cell (blk_below HX2.out hal) 4
       rw [hB] at hks
       have HKS := Aside0.mk hks
       have hBl : w.heap.size < B := by rw [← hB]; exact blk_lt HX2.out
       clear hal hks hb2
       go_wp2_with fail
       clear x0 x4 x4' hW3 hB y0 x1 x2 x3 hmm hW1
       go_loopw [47] (fun i wr => ∃ j : Nat, j ≤ n4 ∧ i = .int .i64 j ∧ Aside0 (∃ seen : List ByteArray, KeySet wr B j seen ∧ dupK [] t.f4 = dupK seen (t.f4.drop j)) ∧ Aside0 (Below w.heap.size w wr)) (fun i _ => n4 - (intOf i).toNat)
       case atStart => exact ⟨0, by omega, rfl, ⟨[], HKS.out, rfl⟩, HB3⟩
       case round =>
        clear HKS HB3
        obtain ⟨j, hj, rfl, HS, HB⟩ := hrel
        by_cases hlt : j < n4
        ·
         exact absurd hlt (by omega)
        ·
         obtain rfl : j = n4 := by omega
         have HV : Aside0 (R = 0) := ⟨by
          obtain ⟨seen, _, h2⟩ := HS.out
          rw [← HRV.out, h2, List.drop_of_length_le (by have := HN4.out; omega)]
          rfl⟩
         go_wp2_with fail
         go_ret
         exact ⟨by rw [HV.out]; rfl, HB.out⟩
     | false =>
      rw [hE, if_neg (by rintro (h | h | h) <;> first | cases h; done | omega | cases h.1)] at hRv
      have HRV := Lib.hid hRv
      have hnb : n4 ≤ 16 := by omega
      clear hRv
      have hmm := @run_makeMap Tryz.prog
      go_enter Tryz.func33, Tryz.ntmps33
      go_wp2_with fail
      refine HPL.out.mono ?_
      rintro e w2 ⟨rfl, hb2⟩
      have HB2 := Aside0.mk (HB1.out.trans (hb2.mono HB1.out.size))
      have HX2 := Aside0.mk (blk_below HX1.out hb2)
      have x0 : w2.cell? ⟨w.heap.size, 0, none⟩ = some (.string t.f0) := blk_cell HX2.out 0
      have x4 : w2.cell? ⟨w.heap.size, 4, none⟩ = some (.slice A4 n4 c4) := blk_cell HX2.out 4
      obtain ⟨W3, hW3⟩ : ∃ W, w2.alloc (.map #[] 0) = W := ⟨_, rfl⟩
      obtain ⟨B, hB⟩ : ∃ B, w2.heap.size = B := ⟨_, rfl⟩
      have hal := below_alloc (Below.refl w2.heap.size w2) (.map #[] 0)
      have hks := KeySet.made w2
      rw [hW3] at hal hks
      have HB3 := Aside0.mk (HB2.out.trans (hal.mono HB2.out.size))
      have x4' : W3.cell? ⟨w.heap.size, 4, none⟩ = some (.slice A4 n4 c4) := blk_cell (blk_below HX2.out hal) 4
      rw [hB] at hks
      have HKS := Aside0.mk hks
      have hBl : w.heap.size < B := by rw [← hB]; exact blk_lt HX2.out
      clear hal hks hb2
      go_wp2_with fail
      clear x0 x4 x4' hW3 hB y0 x1 x2 x3 hmm hW1
      go_loopw [47] (fun i wr => ∃ j : Nat, j ≤ n4 ∧ i = .int .i64 j ∧ Aside0 (∃ seen : List ByteArray, KeySet wr B j seen ∧ dupK [] t.f4 = dupK seen (t.f4.drop j)) ∧ Aside0 (Below w.heap.size w wr)) (fun i _ => n4 - (intOf i).toNat)
      case atStart => exact ⟨0, by omega, rfl, ⟨[], HKS.out, rfl⟩, HB3⟩
      case round =>
       clear HKS HB3
       obtain ⟨j, hj, rfl, HS, HB⟩ := hrel
       by_cases hlt : j < n4
       ·
        obtain ⟨seen, hks, hdup⟩ := HS.out
        have hjl : j < t.f4.length := by have := HN4.out; omega
        obtain ⟨ad, A3', c3', A4', c4', rfl, e0, e1, e2, e3, e4, -⟩ := at_T25 (Kd.C_below HR4.out HB.out) (j : Int) (by omega) (by have := HN4.out; omega)
        have hx : rd_T25 t.f4 (j : Int) = t.f4[j] := by unfold rd_T25; rw [Int.toNat_natCast, List.getD_eq_getElem?_getD, List.getElem?_eq_getElem hjl, Option.getD_some]
        simp only [Int.toNat_natCast] at e0 e1 e2 e3 e4
        rw [hx] at e0 e1 e2 e3 e4
        have hkl := (okL_get t.f4 j hjl HOK.out).1
        rw [List.drop_eq_getElem_cons hjl, dupK] at hdup
        obtain ⟨x, hxe⟩ : ∃ x, t.f4[j] = x := ⟨_, rfl⟩
        rw [hxe] at e0 e1 e2 e3 e4 hdup hkl
        obtain ⟨m3, hm3⟩ : ∃ m, x.f3.length = m := ⟨_, rfl⟩
        obtain ⟨m4, hm4⟩ : ∃ m, x.f4.length = m := ⟨_, rfl⟩
        rw [hm3] at e3
        rw [hm4] at e4
        obtain ⟨W4, hW4⟩ : ∃ W, wr.alloc (.cells #[.string x.f0, .string x.f1, .string x.f2, .slice A3' m3 c3', .slice A4' m4 c4'] 25) = W := ⟨_, rfl⟩
        obtain ⟨N, hN⟩ : ∃ N, wr.heap.size = N := ⟨_, rfl⟩
        have hal := below_alloc (Below.refl wr.heap.size wr) (.cells #[.string x.f0, .string x.f1, .string x.f2, .slice A3' m3 c3', .slice A4' m4 c4'] 25)
        rw [hW4] at hal
        have hx4 : W4.heap[N]? = some (.cells #[.string x.f0, .string x.f1, .string x.f2, .slice A3' m3 c3', .slice A4' m4 c4'] 25 (0, 0)) := by rw [← hW4, ← hN]; exact blk_new rfl
        have z1 : W4.cell? ⟨N, 1, none⟩ = some (.string x.f1) := blk_cell hx4 1
        have hks4 := hks.below hal
        have hlook := hks4.look hkl
        obtain ⟨b, hb⟩ : ∃ b, (seen.any fun y => y.toList == x.f1.toList) = b := ⟨_, rfl⟩
        obtain ⟨em, hem⟩ : ∃ b, x.f1.toList.isEmpty = b := ⟨_, rfl⟩
        rw [hb] at hlook hdup
        rw [hem] at hdup
        have HB4 := Aside0.mk (HB.out.trans (hal.mono HB.out.size))
        have HK4 := Aside0.mk hks4
        have HKL := Aside0.mk hkl
        have HDUP := Aside0.mk hdup
        have hsz := HB4.out.size
        clear hx4 hks4 hal hb hxe hx hjl hdup hm3 hm4 hks HS hkl
        cases em with
        | true =>
         obtain ⟨D, hD1, hD2, hD3⟩ := HK4.out
         have HD2 := Aside0.mk hD2
         have HD3 := Aside0.mk hD3
         have hkey := keyS HKL.out
         clear hD2 hD3
         go_wp2_with (first | (at_mapUpdate; refine wpList_mapUpdate_own _ rfl _ _ _ 94 rfl 9 4 (Maps.string_keyed Tryz.underlying9) Tryz.underlying94 _ B j D rfl hD1 (by show j < 2 ^ 63 - 1; omega) _ _ _ rfl rfl hkey (.lit (.bool true)) [] (plainElem_bool Tryz.underlying4 true) ?_; intro w5 hown5 hg5) | fail)
         refine ⟨⟨j + 1, by omega, by go_num, ⟨x.f1 :: seen, ⟨_, hown5, HD2.out.put _ _, fun s => KeySet.put HD2.out HD3.out x.f1 s⟩, by rw [HDUP.out]; rfl⟩, ⟨below_grown HB4.out hg5 (by omega) hsz⟩⟩, by simp [intOf]; omega⟩
        | false =>
         cases b with
         | true =>
          have HV : Aside0 (R = 6) := ⟨by rw [← HRV.out, HDUP.out]; rfl⟩
          go_wp2_with fail
          go_ret
          exact ⟨by rw [HV.out]; rfl, HB4.out⟩
         | false =>
          obtain ⟨D, hD1, hD2, hD3⟩ := HK4.out
          have HD2 := Aside0.mk hD2
          have HD3 := Aside0.mk hD3
          have hkey := keyS HKL.out
          clear hD2 hD3
          go_wp2_with (first | (at_mapUpdate; refine wpList_mapUpdate_own _ rfl _ _ _ 94 rfl 9 4 (Maps.string_keyed Tryz.underlying9) Tryz.underlying94 _ B j D rfl hD1 (by show j < 2 ^ 63 - 1; omega) _ _ _ rfl rfl hkey (.lit (.bool true)) [] (plainElem_bool Tryz.underlying4 true) ?_; intro w5 hown5 hg5) | fail)
          refine ⟨⟨j + 1, by omega, by go_num, ⟨x.f1 :: seen, ⟨_, hown5, HD2.out.put _ _, fun s => KeySet.put HD2.out HD3.out x.f1 s⟩, by rw [HDUP.out]; rfl⟩, ⟨below_grown HB4.out hg5 (by omega) hsz⟩⟩, by simp [intOf]; omega⟩
       ·
        obtain rfl : j = n4 := by omega
        have HV : Aside0 (R = 0) := ⟨by
         obtain ⟨seen, _, h2⟩ := HS.out
         rw [← HRV.out, h2, List.drop_of_length_le (by have := HN4.out; omega)]
         rfl⟩
        go_wp2_with fail
        go_ret
        exact ⟨by rw [HV.out]; rfl, HB.out⟩
theorem nodeE_zero {nodes : Int} {t : S25} {level : Int} (h : nodeE nodes t level = 0) : level ≤ 8 ∧ nodes ≠ 256 ∧ t.f4.length ≤ 16 := by
 unfold nodeE at h
 split at h
 ·
  cases h
 ·
  split at h
  ·
   cases h
  ·
   split at h
   ·
    cases h
   ·
    rename_i h1 h2 h3
    exact ⟨by omega, h2, by omega⟩
theorem walkT_eq (t : S25) (level : Int) (st : Int × Int × Int) : walkT t level st = if st.2.2 = 0 then (if nodeE st.1 t level = 0 then walkL t.f4 (level + 1) (st.1 + 1, mx st.2.1 level, 0) else (st.1, st.2.1, nodeE st.1 t level)) else st := by
 obtain ⟨f0, f1, f2, f3, f4⟩ := t
 rw [walkT]
theorem okT_eq (t : S25) : okT t = okL t.f4 := by
 obtain ⟨f0, f1, f2, f3, f4⟩ := t
 rw [okT]
theorem kid_lt {t : S25} {j : Nat} (h : j < t.f4.length) : SizeOf.sizeOf t.f4[j] < SizeOf.sizeOf t := by
 obtain ⟨f0, f1, f2, f3, f4⟩ := t
 have h1 := List.sizeOf_lt_of_mem (List.getElem_mem h)
 simp only [S25.mk.sizeOf_spec] at h1 ⊢
 omega
theorem walk_range (m : Nat) : ∀ (t : S25), SizeOf.sizeOf t < m → ∀ (level : Int) (st : Int × Int × Int), 0 ≤ st.1 ∧ st.1 ≤ 256 → 0 ≤ (walkT t level st).1 ∧ (walkT t level st).1 ≤ 256 := by
 induction m with
 | zero => intro t h; omega
 | succ m ih =>
  intro t ht level st hst
  rw [walkT_eq]
  split
  ·
   split
   ·
    rename_i h1 h2
    have h3 := (nodeE_zero h2).2.1
    have hl : ∀ (l : List S25), (∀ x ∈ l, SizeOf.sizeOf x < m) → ∀ (st : Int × Int × Int), 0 ≤ st.1 ∧ st.1 ≤ 256 → 0 ≤ (walkL l (level + 1) st).1 ∧ (walkL l (level + 1) st).1 ≤ 256 := by
     intro l
     induction l with
     | nil => intro _ st h; rw [walkL]; exact h
     | cons x xs ihl =>
      intro hx st h
      rw [walkL]
      exact ihl (fun y hy => hx y (by simp [hy])) _ (ih x (hx x (by simp)) _ _ h)
    refine hl t.f4 (fun x hx => ?_) _ ⟨by show 0 ≤ st.1 + 1; omega, by show st.1 + 1 ≤ 256; omega⟩
    obtain ⟨j, hj, rfl⟩ := List.mem_iff_getElem.1 hx
    have := kid_lt hj
    omega
   ·
    exact hst
  ·
   exact hst
set_option maxRecDepth 100000 in
set_option maxHeartbeats 4000000 in
theorem walk_is (m : Nat) : ∀ (t : S25) (_ : SizeOf.sizeOf t < m) (g : Nat) (nodes deep err : Int) (A3 : Option Addr) (c3 : Nat) (A4 : Option Addr) (c4 : Nat) (level : Int) (w0 w : World) (hg0 : w0.heap.size ≤ g) (hb0 : Below w0.heap.size w0 w) (hg : w.heap[g]? = some (.cells #[.int .i64 nodes, .int .i64 deep, .int .i64 err] 43 (0, 0)))
  (hr3 : Kd.C k91 w0 A3 t.f3.length t.f3) (hc3 : t.f3.length ≤ c3) (hr4 : Kd.C k25 w0 A4 t.f4.length t.f4) (hok : okT t = true) (hlv : -1000 ≤ level ∧ level ≤ 1000) (hnn : 0 ≤ nodes ∧ nodes ≤ 256),
  Calls Tryz.prog 19 #[.pointer (some ⟨g, 0, none⟩), .agg #[.string t.f0, .string t.f1, .string t.f2, .slice A3 t.f3.length c3, .slice A4 t.f4.length c4], .int .i64 level] w fun e w' => (∃ v, e = .returned v) ∧ w'.heap[g]? = some (.cells #[.int .i64 (walkT t level (nodes, deep, err)).1, .int .i64 (walkT t level (nodes, deep, err)).2.1, .int .i64 (walkT t level (nodes, deep, err)).2.2] 43 (0, 0)) ∧ BB w.heap.size g w w' := by
 induction m with
 | zero => intro t h; omega
 | succ m ih =>
  intro t ht g nodes deep err A3 c3 A4 c4 level w0 w hg0 hb0 hg hr3 hc3 hr4 hok hlv hnn
  rw [okT_eq] at hok
  have hgl := blk_lt hg
  have hsz0 := hb0.size
  obtain ⟨W1, hW1⟩ : ∃ W, w.alloc (.cells #[.string t.f0, .string t.f1, .string t.f2, .slice A3 t.f3.length c3, .slice A4 t.f4.length c4] 25) = W := ⟨_, rfl⟩
  have hb1 : Below w.heap.size w W1 := by rw [← hW1]; exact below_alloc (Below.refl _ _) _
  have hx1 : W1.heap[w.heap.size]? = some (.cells #[.string t.f0, .string t.f1, .string t.f2, .slice A3 t.f3.length c3, .slice A4 t.f4.length c4] 25 (0, 0)) := by rw [← hW1]; exact blk_new rfl
  have hg1 := blk_below hg hb1
  have hb01 := hb0.trans (hb1.mono hsz0)
  have HNODE := Aside0.mk (node_is g nodes deep err t A3 c3 A4 c4 level W1 hg1 (Kd.C_below hr3 hb01) hc3 (Kd.C_below hr4 hb01) hok)
  have HX1 := Aside0.mk hx1
  have HG1 := Aside0.mk hg1
  have HB1 := Aside0.mk hb1
  have HR4 := Aside0.mk hr4
  have HOK := Aside0.mk hok
  have HB0 := Aside0.mk hb0
  have HIH := Aside0.mk ih
  have HT := Aside0.mk ht
  obtain ⟨R, hR⟩ : ∃ R, walkT t level (nodes, deep, err) = R := ⟨_, rfl⟩
  have hRv := hR
  rw [walkT_eq] at hRv
  dsimp only at hRv
  obtain ⟨n3, hn3⟩ : ∃ n, t.f3.length = n := ⟨_, rfl⟩
  obtain ⟨n4, hn4⟩ : ∃ n, t.f4.length = n := ⟨_, rfl⟩
  have HN4 := Lib.hid hn4
  obtain ⟨q, hq⟩ : ∃ q, nodeE nodes t level = q := ⟨_, rfl⟩
  have hqz : q = 0 → level ≤ 8 ∧ nodes ≠ 256 ∧ n4 ≤ 16 := fun h => by have := nodeE_zero (hq.trans h); omega
  have HQZ := Aside0.mk hqz
  rw [hq] at HNODE hRv
  rw [hn3, hn4] at hW1 HX1 HNODE
  rw [hR, hn3, hn4]
  have HNN := Aside0.mk hnn
  have HLV := Aside0.mk hlv
  have y2 : W1.cell? ⟨g, 2, none⟩ = some (.int .i64 err) := blk_cell hg1 2
  have hne : g ≠ w.heap.size := by omega
  have hne2 : w.heap.size ≠ g := by omega
  have x0 : W1.cell? ⟨w.heap.size, 0, none⟩ = some (.string t.f0) := blk_cell HX1.out 0
  have x1 : W1.cell? ⟨w.heap.size, 1, none⟩ = some (.string t.f1) := blk_cell HX1.out 1
  have x2 : W1.cell? ⟨w.heap.size, 2, none⟩ = some (.string t.f2) := blk_cell HX1.out 2
  have x3 : W1.cell? ⟨w.heap.size, 3, none⟩ = some (.slice A3 n3 c3) := blk_cell HX1.out 3
  have x4 : W1.cell? ⟨w.heap.size, 4, none⟩ = some (.slice A4 n4 c4) := blk_cell HX1.out 4
  clear hb1 hx1 hg1 hb01 hr3 hc3 hr4 hok hg hR hn3 hn4 hq hb0 ih ht hqz hnn hlv
  by_cases he : err = 0
  ·
   subst he
   rw [if_pos rfl] at hRv
   have HRV := Lib.hid hRv
   clear hRv
   go_enter Tryz.func19, Tryz.ntmps19
   go_wp2_with fail
   refine HNODE.out.mono ?_
   rintro e w2 ⟨rfl, hb2⟩
   have hg2 := blk_below HG1.out hb2
   have hx2 := blk_below HX1.out hb2
   have f2 : ∀ i, w2.frozen? ⟨g, i, none⟩ = false := fun i => blk_frozen hg2 i
   have y2 : w2.cell? ⟨g, 2, none⟩ = some (.int .i64 0) := blk_cell hg2 2
   have y0 : w2.cell? ⟨g, 0, none⟩ = some (.int .i64 nodes) := blk_cell hg2 0
   have y1 : w2.cell? ⟨g, 1, none⟩ = some (.int .i64 deep) := blk_cell hg2 1
   have hbb2 : BB w.heap.size g w w2 := BB.of_below (HB1.out.trans (hb2.mono HB1.out.size))
   have g3 := blk_put (cs' := #[.int .i64 nodes, .int .i64 deep, .int .i64 q]) hg2 2 (.int .i64 q) rfl
   have HX2 := Aside0.mk hx2
   by_cases hq0 : q = 0
   ·
    subst hq0
    rw [if_pos rfl] at HRV
    have hlv8 := (HQZ.out rfl).1
    have hn256 := (HQZ.out rfl).2.1
    have hn16 := (HQZ.out rfl).2.2
    have hnr := HNN.out
    have hlr := HLV.out
    have hw1 : IntKind.i64.wrap (nodes + 1) = nodes + 1 := by rw [i64_w]; unfold wrap64; omega
    have hw2 : IntKind.i64.wrap (level + 1) = level + 1 := by rw [i64_w]; unfold wrap64; omega
    obtain ⟨dd, hdd⟩ : ∃ d, mx deep level = d := ⟨_, rfl⟩
    rw [hdd] at HRV
    have hmx : (if deep < level then level else deep) = dd := hdd
    have g4 := blk_put (cs' := #[.int .i64 (nodes + 1), .int .i64 deep, .int .i64 0]) g3 0 (.int .i64 (nodes + 1)) rfl
    have g5 := blk_put (cs' := #[.int .i64 (nodes + 1), .int .i64 dd, .int .i64 0]) g4 1 (.int .i64 dd) rfl
    have HG5 := Aside0.mk g5
    have HBB5 := Aside0.mk (((hbb2.setCell 2 (.int .i64 0)).setCell 0 (.int .i64 (nodes + 1))).setCell 1 (.int .i64 dd))
    have x4 : w2.cell? ⟨w.heap.size, 4, none⟩ = some (.slice A4 n4 c4) := blk_cell hx2 4
    clear hg2 hx2 hb2 hbb2 g3 g4 g5 hdd x0 x1 x2 x3
    go_wp2_with fail
    go_loopw [44] (fun i wr => ∃ (j : Nat) (s0 s1 s2 : Int), j ≤ n4 ∧ i = .int .i64 j ∧ Aside0 (wr.heap[g]? = some (.cells #[.int .i64 s0, .int .i64 s1, .int .i64 s2] 43 (0, 0))) ∧ Aside0 (walkL (t.f4.drop j) (level + 1) (s0, s1, s2) = R ∧ 0 ≤ s0 ∧ s0 ≤ 256) ∧ Aside0 (BB w.heap.size g w wr)) (fun i _ => n4 - (intOf i).toNat)
    case atStart => exact ⟨0, nodes + 1, dd, 0, by omega, rfl, HG5, ⟨HRV.out, by omega, by omega⟩, HBB5⟩
    case round =>
     clear HG5 HBB5 x4 y0 y1 y2 f2
     obtain ⟨j, s0, s1, s2, hj, rfl, HG, HS, HBB⟩ := hrel
     by_cases hlt : j < n4
     ·
      have hjl : j < t.f4.length := by have := HN4.out; omega
      have hbw : Below w0.heap.size w0 wr := HB0.out.trans (HBB.out.below hsz0 hg0)
      obtain ⟨ad, A3', c3', A4', c4', rfl, e0, e1, e2, e3, e4, hl3, hC3, hl4, hC4⟩ := at_T25 HR4.out (j : Int) (by omega) (by have := HN4.out; omega)
      have hx : rd_T25 t.f4 (j : Int) = t.f4[j] := by unfold rd_T25; rw [Int.toNat_natCast, List.getD_eq_getElem?_getD, List.getElem?_eq_getElem hjl, Option.getD_some]
      simp only [Int.toNat_natCast] at e0 e1 e2 e3 e4
      rw [hx] at e0 e1 e2 e3 e4 hl3 hC3 hl4 hC4
      replace e0 := pw_cell_below hbw e0
      replace e1 := pw_cell_below hbw e1
      replace e2 := pw_cell_below hbw e2
      replace e3 := pw_cell_below hbw e3
      replace e4 := pw_cell_below hbw e4
      have hks := (okL_get t.f4 j hjl HOK.out).2
      have hszx := kid_lt hjl
      have hS := HS.out.1
      rw [List.drop_eq_getElem_cons hjl, walkL] at hS
      obtain ⟨x, hxe⟩ : ∃ x, t.f4[j] = x := ⟨_, rfl⟩
      rw [hxe] at e0 e1 e2 e3 e4 hks hszx hS hl3 hC3 hl4 hC4
      obtain ⟨W4, hW4⟩ : ∃ W, wr.alloc (.cells #[.string x.f0, .string x.f1, .string x.f2, .slice A3' x.f3.length c3', .slice A4' x.f4.length c4'] 25) = W := ⟨_, rfl⟩
      obtain ⟨N, hN⟩ : ∃ N, wr.heap.size = N := ⟨_, rfl⟩
      have hal := below_alloc (Below.refl wr.heap.size wr) (.cells #[.string x.f0, .string x.f1, .string x.f2, .slice A3' x.f3.length c3', .slice A4' x.f4.length c4'] 25)
      rw [hW4] at hal
      have hx4 : W4.heap[N]? = some (.cells #[.string x.f0, .string x.f1, .string x.f2, .slice A3' x.f3.length c3', .slice A4' x.f4.length c4'] 25 (0, 0)) := by rw [← hW4, ← hN]; exact blk_new rfl
      have hrg := walk_range _ x (Nat.lt_succ_self _) (level + 1) (s0, s1, s2) ⟨HS.out.2.1, HS.out.2.2⟩
      have hcall := HIH.out x (by have := HT.out; omega) g s0 s1 s2 A3' c3' A4' c4' (level + 1) w0 W4 hg0 (hbw.trans (hal.mono hbw.size)) (blk_below HG.out hal) hC3 hl3 hC4 hks (by omega) HS.out.2
      obtain ⟨V, hV⟩ : ∃ V, walkT x (level + 1) (s0, s1, s2) = V := ⟨_, rfl⟩
      rw [hV] at hcall hrg hS
      obtain ⟨m3, hm3⟩ : ∃ m, x.f3.length = m := ⟨_, rfl⟩
      obtain ⟨m4, hm4⟩ : ∃ m, x.f4.length = m := ⟨_, rfl⟩
      rw [hm3] at e3
      rw [hm4] at e4
      rw [hm3, hm4] at hW4 hx4 hcall
      have z0 : W4.cell? ⟨N, 0, none⟩ = some (.string x.f0) := blk_cell hx4 0
      have z1 : W4.cell? ⟨N, 1, none⟩ = some (.string x.f1) := blk_cell hx4 1
      have z2 : W4.cell? ⟨N, 2, none⟩ = some (.string x.f2) := blk_cell hx4 2
      have z3 : W4.cell? ⟨N, 3, none⟩ = some (.slice A3' m3 c3') := blk_cell hx4 3
      have z4 : W4.cell? ⟨N, 4, none⟩ = some (.slice A4' m4 c4') := blk_cell hx4 4
      have HCALL := Aside0.mk hcall
      have HB4 := Aside0.mk (HBB.out.trans (BB.of_below (hal.mono HBB.out.size)))
      have HSV : Aside0 (walkL (t.f4.drop (j + 1)) (level + 1) (V.1, V.2.1, V.2.2) = R ∧ 0 ≤ V.1 ∧ V.1 ≤ 256) := ⟨hS, hrg⟩
      clear hcall hal hx4 hrg hV hm3 hm4 hxe hks hszx hS hl3 hC3 hl4 hC4 hbw hx hjl HS
      go_wp2_with fail
      refine HCALL.out.mono ?_
      rintro e w5 ⟨⟨v, rfl⟩, hg5, hb5⟩
      have HG5 := Aside0.mk hg5
      have HB5 := Aside0.mk (HB4.out.trans (hb5.mono HB4.out.size))
      clear hg5 hb5 e0 e1 e2 e3 e4 z0 z1 z2 z3 z4 hW4 hN
      go_wp2_with fail
      exact ⟨⟨j + 1, V.1, V.2.1, V.2.2, by omega, by go_num, HG5, HSV, HB5⟩, by simp [intOf]; omega⟩
     ·
      obtain rfl : j = n4 := by omega
      have HF : Aside0 (R = (s0, s1, s2)) := ⟨by
       have h := HS.out.1
       rw [List.drop_of_length_le (by have := HN4.out; omega), walkL] at h
       exact h.symm⟩
      go_wp2_with fail
      go_end0
      exact ⟨⟨_, rfl⟩, by rw [HF.out]; exact HG.out, HBB.out⟩
   ·
    rw [if_neg hq0] at HRV
    have d1 : (q == 0) = false := beq_eq_false_iff_ne.mpr hq0
    have d2 : (q != 0) = true := bne_iff_ne.mpr hq0
    have HG3 := Aside0.mk g3
    have HBB3 := Aside0.mk (hbb2.setCell 2 (.int .i64 q))
    clear g3 hg2 hx2 hb2 hbb2 y0 y1
    go_wp2_with fail
    refine bodyPost_ret (results_none rfl _ _ _) rfl ?_
    exact ⟨⟨_, rfl⟩, by rw [← HRV.out]; exact HG3.out, HBB3.out⟩
  ·
   rw [if_neg he] at hRv
   have HRV := Lib.hid hRv
   have d1 : (err == 0) = false := beq_eq_false_iff_ne.mpr he
   have d2 : (err != 0) = true := bne_iff_ne.mpr he
   clear hRv HNODE x0 x1 x2 x3 x4
   go_enter Tryz.func19, Tryz.ntmps19
   go_wp2_with fail
   refine bodyPost_ret (results_none rfl _ _ _) rfl ?_
   exact ⟨⟨_, rfl⟩, by rw [← HRV.out]; exact HG1.out, BB.of_below HB1.out⟩
def sizeR (t : S25) : Int × Int × Int :=
 if t.f0.toList.isEmpty = true then (0, 0, 9) else if (walkT t 1 (0, 0, 0)).2.2 = 0 then ((walkT t 1 (0, 0, 0)).1, (walkT t 1 (0, 0, 0)).2.1, 0) else (0, 0, (walkT t 1 (0, 0, 0)).2.2)
def tree_Size.f (a0_0 : ByteArray) (a0_1 : ByteArray) (a0_2 : ByteArray) (l0_3 : List S91) (l0_4 : List S25) : Option (Int × Int × Int) := if okL l0_4 = true then some (sizeR ⟨a0_0, a0_1, a0_2, l0_3, l0_4⟩) else none
set_option maxRecDepth 100000 in
set_option maxHeartbeats 4000000 in
theorem size_is (t : S25) (A3 : Option Addr) (c3 : Nat) (A4 : Option Addr) (c4 : Nat) (w : World) (hr3 : Kd.C k91 w A3 t.f3.length t.f3) (hc3 : t.f3.length ≤ c3) (hr4 : Kd.C k25 w A4 t.f4.length t.f4) (hok : okL t.f4 = true) :
  Calls Tryz.prog 6 #[.agg #[.string t.f0, .string t.f1, .string t.f2, .slice A3 t.f3.length c3, .slice A4 t.f4.length c4]] w fun e w' => e = .returned (.tuple #[.int .i64 (sizeR t).1, .int .i64 (sizeR t).2.1, .int .i64 (sizeR t).2.2]) ∧ Below w.heap.size w w' := by
 obtain ⟨W1, hW1⟩ : ∃ W, w.alloc (.cells #[.string t.f0, .string t.f1, .string t.f2, .slice A3 t.f3.length c3, .slice A4 t.f4.length c4] 25) = W := ⟨_, rfl⟩
 have hb1 : Below w.heap.size w W1 := by rw [← hW1]; exact below_alloc (Below.refl _ _) _
 have hx1 : W1.heap[w.heap.size]? = some (.cells #[.string t.f0, .string t.f1, .string t.f2, .slice A3 t.f3.length c3, .slice A4 t.f4.length c4] 25 (0, 0)) := by rw [← hW1]; exact blk_new rfl
 have HB1 := Aside0.mk hb1
 obtain ⟨R, hR⟩ : ∃ R, sizeR t = R := ⟨_, rfl⟩
 have hRv := hR
 unfold sizeR at hRv
 obtain ⟨W2, hW2⟩ : ∃ W, W1.alloc (.cells #[.int .i64 0, .int .i64 0, .int .i64 0] 43) = W := ⟨_, rfl⟩
 obtain ⟨N1, hN1⟩ : ∃ N, W1.heap.size = N := ⟨_, rfl⟩
 have hal := below_alloc (Below.refl W1.heap.size W1) (.cells #[.int .i64 0, .int .i64 0, .int .i64 0] 43)
 rw [hW2] at hal
 have hg2 : W2.heap[N1]? = some (.cells #[.int .i64 0, .int .i64 0, .int .i64 0] 43 (0, 0)) := by rw [← hW2, ← hN1]; exact blk_new rfl
 have hwb := hb1.trans (hal.mono hb1.size)
 have hwk := walk_is _ t (Nat.lt_succ_self _) N1 0 0 0 A3 c3 A4 c4 1 w W2 (by rw [← hN1]; exact hb1.size) hwb hg2 hr3 hc3 hr4 (by rw [okT_eq]; exact hok) (by omega) (by omega)
 obtain ⟨V, hV⟩ : ∃ V, walkT t 1 (0, 0, 0) = V := ⟨_, rfl⟩
 rw [hV] at hRv hwk
 have HB2 := Aside0.mk hwb
 obtain ⟨n3, hn3⟩ : ∃ n, t.f3.length = n := ⟨_, rfl⟩
 obtain ⟨n4, hn4⟩ : ∃ n, t.f4.length = n := ⟨_, rfl⟩
 have hx2 := blk_below hx1 hal
 rw [hn3, hn4] at hW1 hx1 hwk hx2
 rw [hR, hn3, hn4]
 have HWK := Aside0.mk hwk
 have x0 : W1.cell? ⟨w.heap.size, 0, none⟩ = some (.string t.f0) := blk_cell hx1 0
 have z0 : W2.cell? ⟨w.heap.size, 0, none⟩ = some (.string t.f0) := blk_cell hx2 0
 have z1 : W2.cell? ⟨w.heap.size, 1, none⟩ = some (.string t.f1) := blk_cell hx2 1
 have z2 : W2.cell? ⟨w.heap.size, 2, none⟩ = some (.string t.f2) := blk_cell hx2 2
 have z3 : W2.cell? ⟨w.heap.size, 3, none⟩ = some (.slice A3 n3 c3) := blk_cell hx2 3
 have z4 : W2.cell? ⟨w.heap.size, 4, none⟩ = some (.slice A4 n4 c4) := blk_cell hx2 4
 have hNg : w.heap.size ≤ N1 := by rw [← hN1]; exact hb1.size
 have hs2 : w.heap.size ≤ W2.heap.size := hwb.size
 clear hb1 hx1 hx2 hal hwb hwk hr3 hc3 hr4 hok hR hV hg2 hn3 hn4
 cases hE : t.f0.toList.isEmpty with
 | true =>
  rw [hE, if_pos rfl] at hRv
  have HRV := Lib.hid hRv
  clear hRv HWK hW2 z0 z1 z2 z3 z4
  go_enter Tryz.func6, Tryz.ntmps6
  go_wp2_with fail
  go_ret3
  exact ⟨by rw [← HRV.out]; rfl, HB1.out⟩
 | false =>
  rw [hE, if_neg (by decide)] at hRv
  have HRV := Lib.hid hRv
  clear hRv
  go_enter Tryz.func6, Tryz.ntmps6
  go_wp2_with fail
  refine HWK.out.mono ?_
  rintro e w3 ⟨⟨v, rfl⟩, hg3, hb3⟩
  have HB3 := Aside0.mk (HB2.out.trans (hb3.below hs2 hNg))
  have y0 : w3.cell? ⟨N1, 0, none⟩ = some (.int .i64 V.1) := blk_cell hg3 0
  have y1 : w3.cell? ⟨N1, 1, none⟩ = some (.int .i64 V.2.1) := blk_cell hg3 1
  have y2 : w3.cell? ⟨N1, 2, none⟩ = some (.int .i64 V.2.2) := blk_cell hg3 2
  clear hg3 hb3 hW1 hW2 hN1 x0 z0 z1 z2 z3 z4
  by_cases hv : V.2.2 = 0
  ·
   rw [if_pos hv] at HRV
   rw [hv] at y2
   go_wp2_with fail
   go_quiet (fail)
   go_wp2_with fail
   go_ret3
   exact ⟨by rw [← HRV.out]; rfl, pw_below_drewN HB3.out _⟩
  ·
   rw [if_neg hv] at HRV
   have d1 : (V.2.2 != 0) = true := bne_iff_ne.mpr hv
   go_wp2_with fail
   go_quiet (fail)
   go_wp2_with fail
   go_ret3
   exact ⟨by rw [← HRV.out]; rfl, pw_below_drewN HB3.out _⟩
theorem tree_Size.calls (a0_0 : ByteArray) (a0_1 : ByteArray) (a0_2 : ByteArray) (A0_3 : Option Addr) (c0_3 : Nat) (l0_3 : List S91) (A0_4 : Option Addr) (c0_4 : Nat) (l0_4 : List S25) (r1 : Int) (r2 : Int) (r3 : Int) (w : World) (hr0_3 : Kd.C k91 w A0_3 l0_3.length l0_3) (hc0_3 : l0_3.length ≤ c0_3) (hr0_4 : Kd.C k25 w A0_4 l0_4.length l0_4) (hc0_4 : l0_4.length ≤ c0_4) (h : tree_Size.f a0_0 a0_1 a0_2 l0_3 l0_4 = some (r1, r2, r3)) :
  Calls Tryz.prog 6 #[.agg #[.string a0_0, .string a0_1, .string a0_2, .slice A0_3 l0_3.length c0_3, .slice A0_4 l0_4.length c0_4]] w fun e w' => e = .returned (.tuple #[.int .i64 r1, .int .i64 r2, .int .i64 r3]) ∧ Below w.heap.size w w' := by
 unfold tree_Size.f at h
 by_cases hk : okL l0_4 = true
 case neg => rw [if_neg hk] at h; cases h
 rw [if_pos hk] at h
 replace h := Option.some.inj h
 have hs := size_is ⟨a0_0, a0_1, a0_2, l0_3, l0_4⟩ A0_3 c0_3 A0_4 c0_4 w hr0_3 hc0_3 hr0_4 hk
 rw [h] at hs
 exact hs
end Go.Proofs.YtloocmeckpoflaaGreat.D
