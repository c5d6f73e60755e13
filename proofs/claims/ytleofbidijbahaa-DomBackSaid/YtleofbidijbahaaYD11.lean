import Derived.Test.YtleofbidijbahaaYD0
import Derived.Test.YtleofbidijbahaaYD5
import Derived.Test.YtleofbidijbahaaYD7
import Derived.Test.YtleofbidijbahaaYD9
namespace Go.Proofs.Ytleofbidijbahaa.D
open Go.RowKit Go.Proofs.YtleofbidijbahaaW.PrintWords Go.Proofs.YtleofbidijbahaaW.PrintLast Go.Proofs.YtleofbidijbahaaW.PrintMore
attribute [local go_sem] max2_int min2_int max_two min_two max_three min_three max_four min_four   -- for this text's walks alone
set_option linter.unusedVariables false
set_option linter.unusedSimpArgs false
def KeySetI (W : World) (b n : Nat) (seen : List Int) : Prop :=
 ∃ D : DataW Unit, W.ownsMap Try.prog 3 (plainElem Try.prog 4) b n D ∧ Maps.IsMap D ∧ ∀ s : Int, D.atKey (.int .i64 s) (.lit (.bool false)) = .lit (.bool (seen.contains s))
theorem plainElem_boolI {P : Program} {e : TypeId} (he : P.underlying e = some .bool) {v : Value} {c : Bool} {ps : List MemPlace} (h : plainElem (H := Unit) P e v = some (.lit (.bool c), ps)) : v = .bool c := by
 unfold plainElem at h
 rw [he] at h
 cases v with
 | bool x =>
  simp only [Option.some.injEq, Prod.mk.injEq, DataW.lit.injEq, Lit.bool.injEq] at h
  rw [h.1]
 | _ => simp at h
theorem KeySetI.made (W : World) : KeySetI (W.alloc (.map #[] 0)) W.heap.size 0 [] :=
 ⟨.map [], World.ownsMap_made _ _ _ _, (World.ownsMap_made W Try.prog 3 (plainElem (H := Unit) Try.prog 4)).isMap, fun s => rfl⟩
theorem keyI {s : Int} (hs : -9223372036854775808 ≤ s ∧ s ≤ 9223372036854775807) : keyOf Try.prog 3 (.int .i64 s) = some (.int .i64 s) := Maps.keyOf_int_mk Try.underlying3 (by show (decide ((-9223372036854775808 : Int) ≤ s) && decide (s ≤ (9223372036854775807 : Int))) = true; simp only [Bool.and_eq_true, decide_eq_true_eq]; exact hs)
set_option maxRecDepth 100000 in
theorem KeySetI.look {W : World} {b n : Nat} {seen : List Int} (h : KeySetI W b n seen) {s : Int} (hs : -9223372036854775808 ≤ s ∧ s ≤ 9223372036854775807) :
  (Instr.lookup 112 (.map (some b)) (.int .i64 s) false).run Try.prog W = .ok (.bool (seen.contains s)) W := by
 obtain ⟨D, ho, _, hD⟩ := h
 have hz : (zeroValue 4).run Try.prog W = .ok (.bool false) W := by kernel_rfl
 obtain ⟨v, ps, hrun, hv⟩ := ho.lookup (Maps.int_keyed Try.underlying3) Try.underlying112 hz (plainElem_bool Try.underlying4 false) (keyI hs)
 rw [hD] at hv
 obtain ⟨c, hc⟩ : ∃ c, (seen.contains s) = c := ⟨_, rfl⟩
 rw [hc] at hv ⊢
 have hv2 : v = .bool c := plainElem_boolI Try.underlying4 hv
 rw [hrun, hv2]
theorem KeySetI.kept {W W' : World} {b n : Nat} {seen : List Int} (h : KeySetI W b n seen) {row : Option Nat} (hg : W.grownBy W' row) (hne : some b ≠ row) : KeySetI W' b n seen := by
 obtain ⟨D, ho, hm, hD⟩ := h
 exact ⟨D, ho.kept hg hne, hm, hD⟩
theorem KeySetI.below {W W' : World} {b n : Nat} {seen : List Int} (h : KeySetI W b n seen) (hb : Below W.heap.size W W') : KeySetI W' b n seen :=
 h.kept (row := none) ⟨hb.os, hb.tape, hb.output, hb.size, fun i hi _ => hb.block i hi⟩ (by simp)
theorem litI_inj {s t : Int} : (Lit.int .i64 s = Lit.int .i64 t) ↔ s = t := by
 constructor
 ·
  intro h
  injection h
 ·
  intro h
  rw [h]
theorem KeySetI.put {D : DataW Unit} {seen : List Int} (hm : Maps.IsMap D) (hD : ∀ s : Int, D.atKey (.int .i64 s) (.lit (.bool false)) = .lit (.bool (seen.contains s))) (k s : Int) :
  (D.put (.int .i64 k) (.lit (.bool true))).atKey (.int .i64 s) (.lit (.bool false)) = .lit (.bool ((k :: seen).contains s)) := by
 by_cases h : s = k
 ·
  rw [litI_inj.2 h, Maps.atKey_put_same hm (by trivial), List.contains_cons, h]
  simp
 ·
  rw [Maps.atKey_put_other (fun e => h (litI_inj.1 e)), hD, List.contains_cons]
  have : (s == k) = false := beq_eq_false_iff_ne.2 h
  rw [this, Bool.false_or]
def kidsB (ns : List S63) (id : Int) : List Int → List Int → Bool
 | _, [] => true
 | seen, k :: ks => match nodeOf ns k with
  | none => false
  | some x => if x.f1 = id ∧ seen.contains k = false then kidsB ns id (k :: seen) ks else false
def nodeB (ns : List S63) (n : S63) : Bool :=
 if plainB n.f2 n.f3 n.f4 n.f5 = false ∨ 32 < n.f6.length ∨ n.f2.toList.isEmpty = true ∧ 0 < n.f6.length then false else
 if kidsB ns n.f0 [] n.f6 = false then false else
 if n.f1 = 0 then true else match nodeOf ns n.f1 with
  | none => false
  | some p => p.f6.contains n.f0 && rootedF ns ns.length n.f1
theorem KeySetI.lookN {W : World} {b n : Nat} {seen : List Int} (h : KeySetI W b n seen) {s : Int} (hs : -9223372036854775808 ≤ s ∧ s ≤ 9223372036854775807) (m : Nat) :
  (Instr.lookup 112 (.map (some b)) (.int .i64 s) false).run Try.prog (W.drewN m) = .ok (.bool (seen.contains s)) (W.drewN m) := (h.below (pw_below_drewN (Below.refl _ _) m)).look hs
structure Sees (W : World) (g : Nat) (rv nv : Value) (A : Option Addr) (c n : Nat) (ns : List S63) : Prop where
 box : W.heap[g]? = some (.cells #[.slice A n c, rv, nv] 28 (0, 0))
 row : Kd.C k63 W A n ns
 len : ns.length = n
 small : n ≤ 100000
 rises : Rises ns
section
variable {W W' : World} {g c n : Nat} {rv nv : Value} {A : Option Addr} {ns : List S63}
theorem Sees.below (h : Sees W g rv nv A c n ns) (hb : Below W.heap.size W W') : Sees W' g rv nv A c n ns :=
 ⟨(hb.block g (blk_lt h.box)).trans h.box, Kd.C_below h.row hb, h.len, h.small, h.rises⟩
theorem Sees.find (h : Sees W g rv nv A c n ns) (id : Int) : Calls Try.prog 49 #[.pointer (some ⟨g, 0, none⟩), .int .i64 id] W fun e w' => e = .returned (findV A ns id) ∧ Below W.heap.size W w' := by
 obtain ⟨h1, h2, rfl, h3, h4⟩ := h
 exact find_is g rv nv ns A c id W h1 h2 h3 h4
theorem Sees.up (h : Sees W g rv nv A c n ns) (id other : Int) : Calls Try.prog 88 #[.pointer (some ⟨g, 0, none⟩), .int .i64 id, .int .i64 other] W fun e w' => e = .returned (.bool (upF ns other (n + 1) id)) ∧ Below W.heap.size W w' := by
 obtain ⟨h1, h2, rfl, h3, h4⟩ := h
 exact up_is g rv nv ns A c id other W h1 h2 h3 h4
theorem Sees.rooted (h : Sees W g rv nv A c n ns) (x : S63) (B5 : Option Addr) (d5 n5 : Nat) (B6 : Option Addr) (d6 n6 : Nat) (h5 : x.f5.length = n5) (h6 : x.f6.length = n6) : Calls Try.prog 79 #[.pointer (some ⟨g, 0, none⟩), .agg #[.int .i64 x.f0, .int .i64 x.f1, .string x.f2, .string x.f3, .string x.f4, .slice B5 n5 d5, .slice B6 n6 d6]] W fun e w' => e = .returned (.bool (rootedF ns n x.f1)) ∧ Below W.heap.size W w' := by
 obtain ⟨h1, h2, rfl, h3, h4⟩ := h
 subst h5 h6
 exact rooted_is g rv nv ns A c x B5 d5 B6 d6 W h1 h2 h3 h4
end
def idxI : List Int → Int → Int
 | [], _ => -1
 | x :: xs, a => if a = x then 0 else if idxI xs a < 0 then -1 else idxI xs a + 1
theorem idxI_lo (l : List Int) (a : Int) : -1 ≤ idxI l a ∧ idxI l a < l.length ∨ l = [] ∧ idxI l a = -1 := by
 induction l with
 | nil => exact .inr ⟨rfl, rfl⟩
 | cons x xs ih =>
  unfold idxI
  refine .inl ?_
  rw [List.length_cons]
  split
  ·
   omega
  ·
   split
   ·
    omega
   ·
    rcases ih with ih | ⟨rfl, ih⟩
    ·
     omega
    ·
     omega
theorem idxI_has (l : List Int) (a : Int) : decide (idxI l a ≥ 0) = l.contains a := by
 induction l with
 | nil => rfl
 | cons x xs ih =>
  rw [List.contains_cons, ← ih]
  rw [idxI]
  by_cases h : a = x
  ·
   rw [if_pos h]; subst h; simp
  ·
   rw [if_neg h, show (a == x) = false from beq_eq_false_iff_ne.2 h, Bool.false_or]
   congr 1
   split
   ·
    exact propext ⟨fun _ => by omega, fun _ => by omega⟩
   ·
    exact propext ⟨fun _ => by omega, fun _ => by omega⟩
theorem index_l0 (l : List Int) (a : Int) (hl : l.length ≤ 9223372036854775807) : ∀ (k i : Nat), i ≤ l.length → l.length - i < k → slices_Index_int_int.l0 k l a (l.length : Int) (i : Int) = some (if idxI (l.drop i) a < 0 then -1 else i + idxI (l.drop i) a)
 | 0, i, h1, h2 => by omega
 | k + 1, i, h1, h2 => by
  rw [slices_Index_int_int.l0]
  by_cases hlt : i < l.length
  ·
   rw [if_pos (by omega), if_pos (by omega), if_pos (by omega)]
   have hx : rd l (i : Int) = l[i] := by unfold rd; rw [Int.toNat_natCast, List.getD_eq_getElem?_getD, List.getElem?_eq_getElem hlt, Option.getD_some]
   rw [hx, List.drop_eq_getElem_cons hlt]
   unfold idxI
   by_cases ha : a = l[i]
   ·
    rw [if_pos ha, if_pos ha]; simp
   ·
    have hw : wrap64 ((i : Int) + 1) = ((i + 1 : Nat) : Int) := by unfold wrap64; omega
    rw [if_neg ha, if_neg ha, hw, index_l0 l a hl k (i + 1) (by omega) (by omega)]
    split
    ·
     simp
    ·
     congr 1
     rw [if_neg (by omega)]
     omega
  ·
   rw [if_neg (by omega), List.drop_eq_nil_of_le (by omega)]
   rfl
theorem index_f (l : List Int) (a : Int) (hl : l.length ≤ 9223372036854775807) : slices_Index_int_int.f (l.length + 1) l a = some (idxI l a) := by
 unfold slices_Index_int_int.f
 have h := index_l0 l a hl (l.length + 1) 0 (by omega) (by omega)
 rw [List.drop_zero] at h
 rw [show (0 : Int) = ((0 : Nat) : Int) from rfl, h]
 rcases idxI_lo l a with h1 | ⟨_, h1⟩
 ·
  congr 1; split <;> omega
 ·
  rw [h1]; rfl
theorem contains_is (A0 : Option Addr) (c0 : Nat) (l0 : List Int) (a1 : Int) (w : World) (hr0 : Kd.C (Kd.int .i64) w A0 l0.length l0) (hc0 : l0.length ≤ c0) :
  Calls Try.prog 78 #[.slice A0 l0.length c0, .int .i64 a1] w fun e w' => e = .returned (.bool (l0.contains a1)) ∧ Drawn0 w w' :=
 slices_Contains_int_int.calls (l0.length + 1) A0 c0 l0 a1 _ w hr0 hc0 (by unfold slices_Contains_int_int.f; rw [index_f l0 a1 hr0.2.1, Option.bind_some, idxI_has])
theorem Sees.get {W : World} {g c n : Nat} {rv nv : Value} {A : Option Addr} {ns : List S63} {id : Int} {x : S63} (hS : Sees W g rv nv A c n ns) (h : nodeOf ns id = some x) : ∃ ad L A5 c5 A6 c6, A = some ad ∧ lowP ns id = L ∧ L < n ∧ x = rd_T63 ns (L : Int) ∧ x.f0 = id ∧ findV A ns id = .pointer (some (ad.add (L * 7))) ∧ W.cell? (ad.add (L * 7)) = some (.int .i64 x.f0) ∧ W.cell? ⟨(ad.add (L * 7)).block, (ad.add (L * 7)).off + 1, none⟩ = some (.int .i64 x.f1) ∧ W.cell? ⟨(ad.add (L * 7)).block, (ad.add (L * 7)).off + 2, none⟩ = some (.string x.f2) ∧ W.cell? ⟨(ad.add (L * 7)).block, (ad.add (L * 7)).off + 3, none⟩ = some (.string x.f3) ∧ W.cell? ⟨(ad.add (L * 7)).block, (ad.add (L * 7)).off + 4, none⟩ = some (.string x.f4) ∧ W.cell? ⟨(ad.add (L * 7)).block, (ad.add (L * 7)).off + 5, none⟩ = some (.slice A5 x.f5.length c5) ∧ W.cell? ⟨(ad.add (L * 7)).block, (ad.add (L * 7)).off + 6, none⟩ = some (.slice A6 x.f6.length c6) ∧ (x.f5.length ≤ c5 ∧ Kd.C k68 W A5 x.f5.length x.f5) ∧ x.f6.length ≤ c6 ∧ Kd.C (Kd.int .i64) W A6 x.f6.length x.f6 := by
 obtain ⟨h1, hC, rfl, h3, h4⟩ := hS
 unfold nodeOf at h
 split at h
 ·
  rename_i hb
  have hbb := hb
  simp only [Bool.and_eq_true, decide_eq_true_eq] at hb
  have hx := (Option.some.inj h).symm
  obtain ⟨ad, A5, c5, A6, c6, rfl, e0, e1, e2, e3, e4, e5, e6, hl5, hC5, hl6, hC6⟩ := at_T63 hC (lowP ns id : Int) (by omega) (by omega)
  simp only [Int.toNat_natCast] at e0 e1 e2 e3 e4 e5 e6
  refine ⟨ad, lowP ns id, A5, c5, A6, c6, rfl, rfl, hb.1, hx, by rw [hx]; exact hb.2, by unfold findV; rw [if_pos hbb]; rfl, ?_⟩
  rw [hx]
  exact ⟨e0, e1, e2, e3, e4, e5, e6, ⟨hl5, hC5⟩, hl6, hC6⟩
 ·
  cases h
abbrev NBox (W : World) (b : Nat) (x : S63) (B5 : Option Addr) (d5 n5 : Nat) (B6 : Option Addr) (d6 n6 : Nat) : Prop := W.heap[b]? = some (.cells #[.int .i64 x.f0, .int .i64 x.f1, .string x.f2, .string x.f3, .string x.f4, .slice B5 n5 d5, .slice B6 n6 d6] 63 (0, 0))
set_option maxRecDepth 100000 in
set_option maxHeartbeats 4000000 in
theorem dnode_is (g : Nat) (rv nv : Value) (ns : List S63) (A : Option Addr) (c n : Nat) (x : S63) (B5 : Option Addr) (d5 n5 : Nat) (B6 : Option Addr) (d6 n6 : Nat) (w : World) (hS : Sees w g rv nv A c n ns) (h5 : x.f5.length = n5) (h6 : x.f6.length = n6)
  (hr5 : Kd.C k68 w B5 n5 x.f5) (hc5 : n5 ≤ d5) (hr6 : Kd.C (Kd.int .i64) w B6 n6 x.f6) (hkr : ∀ k ∈ x.f6, -9223372036854775808 ≤ k ∧ k ≤ 9223372036854775807) :
  Calls Try.prog 48 #[.pointer (some ⟨g, 0, none⟩), .agg #[.int .i64 x.f0, .int .i64 x.f1, .string x.f2, .string x.f3, .string x.f4, .slice B5 n5 d5, .slice B6 n6 d6]] w fun e w' => e = .returned (.bool (nodeB ns x)) ∧ Below w.heap.size w w' := by
 obtain ⟨W1, hW1⟩ : ∃ W, w.alloc (.cells #[.int .i64 x.f0, .int .i64 x.f1, .string x.f2, .string x.f3, .string x.f4, .slice B5 n5 d5, .slice B6 n6 d6] 63) = W := ⟨_, rfl⟩
 have hb1 : Below w.heap.size w W1 := by rw [← hW1]; exact (Below.refl _ _).alloc (Nat.le_refl _) _
 have HX1 : Aside0 (NBox W1 w.heap.size x B5 d5 n5 B6 d6 n6) := ⟨by rw [← hW1]; exact World.alloc_heap_new w _⟩
 obtain ⟨q, hq⟩ : ∃ q, plainB x.f2 x.f3 x.f4 x.f5 = q := ⟨_, rfl⟩
 have HPL := Aside0.mk (tree_Plain.calls x.f2 x.f3 x.f4 B5 d5 x.f5 q W1 (by rw [h5]; exact Kd.C_below hr5 hb1) (by rw [h5]; exact hc5) (by rw [← hq]; rfl))
 rw [h5] at HPL
 have HB1 := Aside0.mk hb1
 have HS := Aside0.mk hS
 have HR6 := Aside0.mk hr6
 have HKR := Aside0.mk hkr
 obtain ⟨R, hR⟩ : ∃ R, nodeB ns x = R := ⟨_, rfl⟩
 rw [hR]
 unfold nodeB at hR
 rw [hq, h6, hS.len] at hR
 have HN6 := Lib.hid h6
 have HN5 := Lib.hid h5
 have HR := Lib.hid hR
 have x0 : W1.cell? ⟨w.heap.size, 0, none⟩ = some (.int .i64 x.f0) := blk_cell HX1.out 0
 have x1 : W1.cell? ⟨w.heap.size, 1, none⟩ = some (.int .i64 x.f1) := blk_cell HX1.out 1
 have x2 : W1.cell? ⟨w.heap.size, 2, none⟩ = some (.string x.f2) := blk_cell HX1.out 2
 have x3 : W1.cell? ⟨w.heap.size, 3, none⟩ = some (.string x.f3) := blk_cell HX1.out 3
 have x4 : W1.cell? ⟨w.heap.size, 4, none⟩ = some (.string x.f4) := blk_cell HX1.out 4
 have x5 : W1.cell? ⟨w.heap.size, 5, none⟩ = some (.slice B5 n5 d5) := blk_cell HX1.out 5
 have x6 : W1.cell? ⟨w.heap.size, 6, none⟩ = some (.slice B6 n6 d6) := blk_cell HX1.out 6
 clear hb1 hr5 hc5 hr6 hS hR h5 h6 hq hkr
 go_enter Try.func48, Try.ntmps48
 go_upto_region 1 with (fail)
 go_cut [36] (fun v wc => v = .bool (!q || decide (32 < n6) || (x.f2.toList.isEmpty && decide (0 < n6))) ∧ Aside0 (Below w.heap.size w wc) ∧ Aside0 (NBox wc w.heap.size x B5 d5 n5 B6 d6 n6))
 case first =>
  go_wp2_with fail
  refine HPL.out.mono ?_
  rintro e w2 ⟨rfl, hb2⟩
  have HB2 := Aside0.mk (HB1.out.trans (hb2.mono HB1.out.size))
  have HX2 : Aside0 (NBox w2 w.heap.size x B5 d5 n5 B6 d6 n6) := ⟨(hb2.block _ (blk_lt HX1.out)).trans HX1.out⟩
  replace x2 : w2.cell? ⟨w.heap.size, 2, none⟩ = some (.string x.f2) := blk_cell HX2.out 2
  replace x6 : w2.cell? ⟨w.heap.size, 6, none⟩ = some (.slice B6 n6 d6) := blk_cell HX2.out 6
  clear hb2 HPL x3 x4 x5 x0 x1
  cases q with
  | false =>
   go_wp2_with fail
   go_meet
   exact ⟨rfl, HB2, HX2⟩
  | true =>
   by_cases h3 : 32 < n6
   ·
    have d3 : decide ((n6 : Int) > 32) = true := decide_eq_true (by omega)
    have d4 : decide (32 < n6) = true := decide_eq_true h3
    go_wp2_with fail
    go_meet
    exact ⟨by rw [d4]; rfl, HB2, HX2⟩
   ·
    have d3 : decide ((n6 : Int) > 32) = false := decide_eq_false (by omega)
    have d4 : decide (32 < n6) = false := decide_eq_false h3
    cases hE : x.f2.toList.isEmpty with
    | true =>
     by_cases h5 : 0 < n6
     ·
      have e5 : decide ((n6 : Int) > 0) = true := decide_eq_true (by omega)
      have e6 : decide (0 < n6) = true := decide_eq_true h5
      go_wp2_with fail
      go_meet
      exact ⟨by rw [d4, hE, e6]; rfl, HB2, HX2⟩
     ·
      have e5 : decide ((n6 : Int) > 0) = false := decide_eq_false (by omega)
      have e6 : decide (0 < n6) = false := decide_eq_false h5
      go_wp2_with fail
      go_meet
      exact ⟨by rw [d4, hE, e6]; rfl, HB2, HX2⟩
    | false =>
     go_wp2_with fail
     go_meet
     exact ⟨by rw [d4, hE]; rfl, HB2, HX2⟩
 case rest =>
  obtain ⟨rfl, HB2, HX2⟩ := hcut
  obtain ⟨q0, hq0⟩ : ∃ q0, (!q || decide (32 < n6) || (x.f2.toList.isEmpty && decide (0 < n6))) = q0 := ⟨_, rfl⟩
  rw [hq0]
  have HQ0 := Lib.hid hq0
  clear hq0 x0 x1 x2 x3 x4 x5 x6 HPL HX1 hW1
  have HR2 : Aside0 ((if q0 = true then false else if kidsB ns x.f0 [] x.f6 = false then false else if x.f1 = 0 then true else match nodeOf ns x.f1 with | none => false | some p => p.f6.contains x.f0 && rootedF ns n x.f1) = R) := ⟨by
   rw [← HR.out, ← HQ0.out]
   congr 1
   cases q <;> simp⟩
  clear HR HQ0
  cases q0 with
  | true =>
   go_wp2_with fail
   go_ret
   exact ⟨by rw [← HR2.out]; rfl, HB2.out⟩
  | false =>
   have hmm := @run_makeMap Try.prog
   obtain ⟨W3, hW3⟩ : ∃ W, wc.alloc (.map #[] 0) = W := ⟨_, rfl⟩
   obtain ⟨B, hB⟩ : ∃ B, wc.heap.size = B := ⟨_, rfl⟩
   have hal := (Below.refl wc.heap.size wc).alloc (Nat.le_refl _) (.map #[] 0)
   have hks := KeySetI.made wc
   rw [hW3] at hal hks
   have HB3 := Aside0.mk (HB2.out.trans (hal.mono HB2.out.size))
   have HX3 : Aside0 (NBox W3 w.heap.size x B5 d5 n5 B6 d6 n6) := ⟨(hal.block _ (blk_lt HX2.out)).trans HX2.out⟩
   have z6 : W3.cell? ⟨w.heap.size, 6, none⟩ = some (.slice B6 n6 d6) := blk_cell HX3.out 6
   rw [hB] at hks
   have HKS := Aside0.mk hks
   have hBl : w.heap.size < B := by rw [← hB]; exact blk_lt HX2.out
   clear hal hks
   go_wp2_with fail
   clear hW3 hB hmm
   go_loopw [41] (fun i wr => ∃ j : Nat, j ≤ n6 ∧ i = .int .i64 j ∧ Aside0 (∃ seen : List Int, KeySetI wr B j seen ∧ kidsB ns x.f0 [] x.f6 = kidsB ns x.f0 seen (x.f6.drop j)) ∧ Aside0 (Below w.heap.size w wr) ∧ Aside0 (NBox wr w.heap.size x B5 d5 n5 B6 d6 n6)) (fun i _ => n6 - (intOf i).toNat)
   case atStart => exact ⟨0, by omega, rfl, ⟨[], HKS.out, rfl⟩, HB3, HX3⟩
   case round =>
    clear HKS HB3 HX3 z6
    obtain ⟨j, hj, rfl, HSE, HBR, HXR⟩ := hrel
    have hlp : w.heap.size ≤ wr.heap.size := HBR.out.size
    have x0 : wr.cell? ⟨w.heap.size, 0, none⟩ = some (.int .i64 x.f0) := blk_cell HXR.out 0
    have HSr := Aside0.mk (HS.out.below HBR.out)
    by_cases hlt : j < n6
    ·
     obtain ⟨seen, hks, hdup⟩ := HSE.out
     have hjl : j < x.f6.length := by have := HN6.out; omega
     obtain ⟨ad6, rfl, hcell⟩ := Kd.at_int (Kd.C_below HR6.out HBR.out) (j : Int) (by omega) (by omega)
     have hx : rd x.f6 (j : Int) = x.f6[j] := by unfold rd; rw [Int.toNat_natCast, List.getD_eq_getElem?_getD, List.getElem?_eq_getElem hjl, Option.getD_some]
     rw [hx, Int.toNat_natCast] at hcell
     rw [List.drop_eq_getElem_cons hjl, kidsB] at hdup
     have hkk := HKR.out x.f6[j] (List.getElem_mem hjl)
     obtain ⟨k, hk⟩ : ∃ k, x.f6[j] = k := ⟨_, rfl⟩
     rw [hk] at hcell hdup hkk
     have HKK := Aside0.mk hkk
     have HCALL := Aside0.mk (HSr.out.find k)
     have d42 : decide ((j : Int) < (n6 : Int)) = true := decide_eq_true (by omega)
     have HKS := Aside0.mk hks
     clear hks hx hk hkk hjl HSE
     cases hno : nodeOf ns k with
     | none =>
      rw [findV_none hno] at HCALL
      rw [hno] at hdup
      have HV : Aside0 (R = false) := ⟨by rw [← HR2.out, if_neg (by decide), if_pos hdup]⟩
      clear hdup
      go_wp2_with fail
      refine HCALL.out.mono ?_
      rintro e w5 ⟨rfl, hb5⟩
      have HB5 := Aside0.mk (HBR.out.trans (hb5.mono hlp))
      clear hb5 HCALL
      go_wp2_with fail
      go_quiet (fail)
      go_wp2_with fail
      go_ret
      exact ⟨by rw [HV.out]; rfl, pw_below_drewN HB5.out _⟩
     | some y =>
      obtain ⟨ad, L, A5, c5, A6, c6, hA, -, -, -, -, hfv, -, e1, -⟩ := findV_some HSr.out.row HSr.out.len hno
      rw [hfv] at HCALL
      rw [hno] at hdup
      have HDUP := Aside0.mk hdup
      clear hdup hA hfv
      go_wp2_with fail
      refine HCALL.out.mono ?_
      rintro e w5 ⟨rfl, hb5⟩
      have HB5 := Aside0.mk (HBR.out.trans (hb5.mono hlp))
      replace e1 := pw_cell_below hb5 e1
      have HX5 : Aside0 (NBox w5 w.heap.size x B5 d5 n5 (some ad6) d6 n6) := ⟨(hb5.block _ (blk_lt HXR.out)).trans HXR.out⟩
      replace x0 : w5.cell? ⟨w.heap.size, 0, none⟩ = some (.int .i64 x.f0) := blk_cell HX5.out 0
      have hks5 := HKS.out.below hb5
      have hlook := hks5.lookN HKK.out
      have HK5 := Aside0.mk hks5
      clear hb5 HCALL hks5
      by_cases hp : y.f1 = x.f0
      ·
       have dp : (y.f1 != x.f0) = false := by rw [hp]; exact bne_self_eq_false _
       obtain ⟨b, hb⟩ : ∃ b, seen.contains k = b := ⟨_, rfl⟩
       simp only [hb] at hlook
       have HBB := Aside0.mk hb
       have HP := Aside0.mk hp
       clear hb hp
       cases b with
       | true =>
        have HV : Aside0 (R = false) := ⟨by
         have h1 := HDUP.out
         simp only [HBB.out, Bool.true_eq_false, and_false, if_false] at h1
         rw [← HR2.out, if_neg (by decide), if_pos h1]⟩
        go_wp2_with fail
        go_quiet (fail)
        go_wp2_with fail
        go_ret
        exact ⟨by rw [HV.out]; rfl, pw_below_drewN HB5.out _⟩
       | false =>
        go_wp2_with fail
        go_quiet (fail)
        obtain ⟨D, hD1, hD2, hD3⟩ := HK5.out
        have hD1 := hD1.kept (row := none) (grown_of_below (pw_below_drewN (Below.refl _ w5) nq) none) (by simp)
        have HD2 := Aside0.mk hD2
        have HD3 := Aside0.mk hD3
        have hkey := keyI HKK.out
        have hn6m : n6 ≤ 9223372036854775807 := HR6.out.2.1
        clear hD2 hD3 x0 hlook
        go_wp2_with (first | (at_mapUpdate; refine wpList_mapUpdate_own _ rfl _ _ _ 112 rfl 3 4 (Maps.int_keyed Try.underlying3) Try.underlying112 _ B j D rfl hD1 (by show j < 2 ^ 63 - 1; omega) _ _ _ rfl rfl hkey (.lit (.bool true)) [] (plainElem_bool Try.underlying4 true) ?_; intro w6 hown6 hg6) | fail)
        refine ⟨⟨j + 1, by omega, by go_num, ⟨k :: seen, ⟨_, hown6, HD2.out.put _ _, fun s => KeySetI.put HD2.out HD3.out _ s⟩, ?_⟩, ?_, ?_⟩, by simp [intOf]; omega⟩
        ·
         have h1 := HDUP.out
         rw [if_pos ⟨HP.out, HBB.out⟩] at h1
         exact h1
        ·
         exact ⟨(pw_below_drewN HB5.out _).grown hg6 (by simpa using HB5.out.size) (fun k hk => by injection hk with hk; omega)⟩
        ·
         exact ⟨(hg6.block _ (by simpa using blk_lt HX5.out) (by simp; omega)).trans (by simpa using HX5.out)⟩
      ·
       have HV : Aside0 (R = false) := ⟨by
        have h1 := HDUP.out
        simp only [hp, false_and, if_false] at h1
        rw [← HR2.out, if_neg (by decide), if_pos h1]⟩
       have dp : (y.f1 != x.f0) = true := bne_iff_ne.2 hp
       go_wp2_with fail
       go_quiet (fail)
       go_wp2_with fail
       go_ret
       exact ⟨by rw [HV.out]; rfl, pw_below_drewN HB5.out _⟩
    ·
     obtain rfl : j = n6 := by omega
     have d42 : decide ((j : Int) < (j : Int)) = false := decide_eq_false (by omega)
     have hkd : kidsB ns x.f0 [] x.f6 = true := by
      obtain ⟨seen, -, h⟩ := HSE.out
      rw [h, List.drop_eq_nil_of_le (by have := HN6.out; omega)]
      rfl
     have hr := HR2.out
     rw [if_neg (by decide), if_neg (by rw [hkd]; decide)] at hr
     have HR3 := Aside0.mk hr
     clear hkd hr HR2 HSE
     have x1 : wr.cell? ⟨w.heap.size, 1, none⟩ = some (.int .i64 x.f1) := blk_cell HXR.out 1
     by_cases hp0 : x.f1 = 0
     ·
      have hpb : (x.f1 == 0) = true := by rw [hp0]; rfl
      have hr := HR3.out
      rw [if_pos hp0] at hr
      rw [hp0] at x1
      have HPP := Aside0.mk hp0
      have HR4 := Aside0.mk hr
      clear hpb hp0 hr HR3
      go_wp2_with fail
      go_ret
      exact ⟨by rw [← HR4.out]; rfl, HBR.out⟩
     ·
      have hpb : decide (x.f1 = 0) = false := decide_eq_false hp0
      have hr := HR3.out
      rw [if_neg hp0] at hr
      have HR4 := Aside0.mk hr
      clear hr HR3
      have HCALL := Aside0.mk (HSr.out.find x.f1)
      cases hno : nodeOf ns x.f1 with
      | none =>
       rw [findV_none hno] at HCALL
       rw [hno] at HR4
       go_wp2_with fail
       refine HCALL.out.mono ?_
       rintro e w5 ⟨rfl, hb5⟩
       have HB5 := Aside0.mk (HBR.out.trans (hb5.mono hlp))
       clear hb5 HCALL
       go_wp2_with fail
       go_quiet (fail)
       go_wp2_with fail
       go_ret
       exact ⟨by rw [← HR4.out]; rfl, pw_below_drewN HB5.out _⟩
      | some y =>
       obtain ⟨ad, L, A5, c5, A6, c6, hA, -, -, -, -, hfv, -, -, -, -, -, -, e6, -, hc6, g6⟩ := HSr.out.get hno
       rw [hfv] at HCALL
       rw [hno] at HR4
       have hr4 := HR4.out
       dsimp only at hr4
       obtain ⟨m6, hm6⟩ : ∃ m, y.f6.length = m := ⟨_, rfl⟩
       rw [hm6] at e6 g6 hc6
       have HM6 := Lib.hid hm6
       have HG6 := Aside0.mk g6
       have HC6 := Aside0.mk hc6
       have HR5 := Aside0.mk hr4
       clear hA hfv hr4 HR4 g6 hm6 hc6
       go_wp2_with fail
       refine HCALL.out.mono ?_
       rintro e w5 ⟨rfl, hb5⟩
       have HB5 := Aside0.mk (HBR.out.trans (hb5.mono hlp))
       replace e6 := pw_cell_below hb5 e6
       have HX5 : Aside0 (NBox w5 w.heap.size x B5 d5 n5 B6 d6 j) := ⟨(hb5.block _ (blk_lt HXR.out)).trans HXR.out⟩
       have HS5 := Aside0.mk (HSr.out.below hb5)
       replace HG6 := Aside0.mk (Kd.C_below HG6.out hb5)
       clear hb5 HCALL
       have HCON : Aside0 (∀ W, Below w5.heap.size w5 W → Calls Try.prog 78 #[.slice A6 m6 c6, .int .i64 x.f0] W fun e w' => e = .returned (.bool (y.f6.contains x.f0)) ∧ Drawn0 W w') := ⟨fun W hW => by
        have h := contains_is A6 c6 y.f6 x.f0 W (by rw [HM6.out]; exact Kd.C_below HG6.out hW) (by rw [HM6.out]; exact HC6.out)
        rwa [HM6.out] at h⟩
       have HROOT : Aside0 (∀ W, Below w5.heap.size w5 W → Calls Try.prog 79 #[.pointer (some ⟨g, 0, none⟩), .agg #[.int .i64 x.f0, .int .i64 x.f1, .string x.f2, .string x.f3, .string x.f4, .slice B5 n5 d5, .slice B6 j d6]] W fun e w' => e = .returned (.bool (rootedF ns n x.f1)) ∧ Below W.heap.size W w') := ⟨fun W hW => (HS5.out.below hW).rooted x B5 d5 n5 B6 d6 j HN5.out HN6.out⟩
       obtain ⟨b, hb⟩ : ∃ b, y.f6.contains x.f0 = b := ⟨_, rfl⟩
       simp only [hb] at HCON
       obtain ⟨b2, hb2⟩ : ∃ b, rootedF ns n x.f1 = b := ⟨_, rfl⟩
       simp only [hb2] at HROOT
       have HR6 : Aside0 ((b && b2) = R) := ⟨by rw [← hb, ← hb2]; exact HR5.out⟩
       replace x0 : w5.cell? ⟨w.heap.size, 0, none⟩ = some (.int .i64 x.f0) := blk_cell HX5.out 0
       replace x1 : w5.cell? ⟨w.heap.size, 1, none⟩ = some (.int .i64 x.f1) := blk_cell HX5.out 1
       have x2 : w5.cell? ⟨w.heap.size, 2, none⟩ = some (.string x.f2) := blk_cell HX5.out 2
       have x3 : w5.cell? ⟨w.heap.size, 3, none⟩ = some (.string x.f3) := blk_cell HX5.out 3
       have x4 : w5.cell? ⟨w.heap.size, 4, none⟩ = some (.string x.f4) := blk_cell HX5.out 4
       have x5 : w5.cell? ⟨w.heap.size, 5, none⟩ = some (.slice B5 n5 d5) := blk_cell HX5.out 5
       have x6 : w5.cell? ⟨w.heap.size, 6, none⟩ = some (.slice B6 j d6) := blk_cell HX5.out 6
       clear hb hb2 HR5
       go_wp2_with fail
       cases b with
       | false =>
        go_quiet ((go_at_call 78; exact Calls.quiet_of ((HCON.out _ (pw_below_drewN (Below.refl _ _) _)).mono fun e w' h => ⟨h.1, h.2.out⟩)))
        go_wp2_with fail
        go_ret
        exact ⟨by rw [← HR6.out]; rfl, pw_below_drewN HB5.out _⟩
       | true =>
        go_region_held3 (fun w' => w'.cell? ⟨(ad.add (L * 7)).block, (ad.add (L * 7)).off + 6, none⟩ = some (.slice A6 m6 c6) ∧ w'.cell? ⟨w.heap.size, 0, none⟩ = some (.int .i64 x.f0) ∧ w'.cell? ⟨w.heap.size, 1, none⟩ = some (.int .i64 x.f1) ∧ w'.cell? ⟨w.heap.size, 2, none⟩ = some (.string x.f2) ∧ w'.cell? ⟨w.heap.size, 3, none⟩ = some (.string x.f3) ∧ w'.cell? ⟨w.heap.size, 4, none⟩ = some (.string x.f4) ∧ w'.cell? ⟨w.heap.size, 5, none⟩ = some (.slice B5 n5 d5) ∧ w'.cell? ⟨w.heap.size, 6, none⟩ = some (.slice B6 j d6)) (first | exact ⟨e6, x0, x1, x2, x3, x4, x5, x6⟩ | exact ⟨pw_cell_below HBA.out e6, pw_cell_below HBA.out x0, pw_cell_below HBA.out x1, pw_cell_below HBA.out x2, pw_cell_below HBA.out x3, pw_cell_below HBA.out x4, pw_cell_below HBA.out x5, pw_cell_below HBA.out x6⟩ | exact ⟨pw_cell_below HBB.out e6, pw_cell_below HBB.out x0, pw_cell_below HBB.out x1, pw_cell_below HBB.out x2, pw_cell_below HBB.out x3, pw_cell_below HBB.out x4, pw_cell_below HBB.out x5, pw_cell_below HBB.out x6⟩ | go_keep) ((first | (go_at_call 78; (with_reducible refine (HCON.out _ ?side1).mono ?_); (case side1 => exact below_drew1 (Below.refl _ _)); rintro e wA ⟨rfl, hdA⟩; have HBA := Aside0.mk ((below_drew1 (Below.refl w5.heap.size w5)).trans (hdA.below.mono (by simp))); clear hdA) | (go_at_call 79; (with_reducible refine (HROOT.out _ HBA.out).mono ?_); rintro e wB ⟨rfl, hdB⟩; have HBB := Aside0.mk (HBA.out.trans (hdB.mono HBA.out.size)); clear hdB)))
        go_wp2_with fail
        go_ret
        exact ⟨by rw [← HR6.out]; rfl, HB5.out.trans (HBB.out.mono HB5.out.size)⟩
end Go.Proofs.Ytleofbidijbahaa.D
