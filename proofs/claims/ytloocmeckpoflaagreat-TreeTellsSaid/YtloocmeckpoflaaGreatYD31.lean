import Derived.Test.YtloocmeckpoflaaGreatYD0
import Derived.Test.YtloocmeckpoflaaGreatYD13
import Derived.Test.YtloocmeckpoflaaGreatYD15
import Derived.Test.YtloocmeckpoflaaGreatYD19
import Derived.Test.YtloocmeckpoflaaGreatYD20
import Derived.Test.YtloocmeckpoflaaGreatYD30
namespace Go.Proofs.YtloocmeckpoflaaGreat.D
open Go.RowKit Go.Proofs.YtloocmeckpoflaaGreatW.PrintWords Go.Proofs.YtloocmeckpoflaaGreatW.PrintLast Go.Proofs.YtloocmeckpoflaaGreatW.PrintMore
attribute [local go_sem] max2_int min2_int max_two min_two max_three min_three max_four min_four   -- for this text's walks alone
set_option linter.unusedVariables false
set_option linter.unusedSimpArgs false
set_option maxRecDepth 100000 in
set_option maxHeartbeats 4000000 in
theorem bstr_nil (W : World) (base p : Nat) (s : ByteArray) (h : Bu W base p s) (h0 : s.size = 0) (hB : base ≤ W.heap.size) :
  Calls Tryz.prog 24 #[.pointer (some ⟨p, 0, none⟩)] W fun e w' => e = .returned (.string s) ∧ Below base W w' ∧ KeepsOthers W w' := by
 have hs : s = .empty := ByteArray.ext (Array.size_eq_zero_iff.1 h0)
 subst hs
 have hUS : ∀ (w : World) (q : Option Addr), (Builtin.unsafeString_ #[92, 3] 9 #[.pointer q, .int .i64 0]).run Tryz.prog w = .ok (.string .empty) w := fun w q => Lib.run_unsafeString_none w _ _ _ q
 obtain ⟨hbp, av, v, hp, ha, hown, hne⟩ := h
 have hplt := blk_lt hp
 rcases hown.2 with ⟨rfl, _⟩ | ⟨g, cap, cur, rfl, hbg, hg, hnc, hcm, hcs, htake⟩
 ·
  have c1 : W.cell? ⟨p, 1, none⟩ = some (.slice none 0 0) := blk_cell hp 1
  have hSD : (Builtin.unsafeSliceData_ #[51] 92 #[.slice none 0 0]).run Tryz.prog W.drew = .ok (.pointer none) W.drew := rfl
  clear hown hp ha hne
  go_enter Tryz.func24, Tryz.ntmps24
  go_wp2
  go_region
  all_goals (go_wp2; go_ret; exact ⟨rfl, Below.drew (Below.refl base W), ⟨Nat.le_refl _, fun _ _ h _ => h⟩⟩)
 ·
  by_cases hc : cap = 0
  ·
   subst hc
   have c1 : W.cell? ⟨p, 1, none⟩ = some (.slice (some ⟨g, 0, none⟩) 0 0) := blk_cell hp 1
   have hSD : (Builtin.unsafeSliceData_ #[51] 92 #[.slice (some ⟨g, 0, none⟩) 0 0]).run Tryz.prog W.drew = .ok (.pointer (some ⟨W.drew.heap.size, 0, none⟩)) (W.drew.alloc (.view ⟨g, 0, none⟩ 5)) :=
    Lib.run_unsafeSliceData_zero W.drew _ _ 5 Tryz.underlying92 ⟨g, 0, none⟩ 0 (5, cur.size) (by have hg' : W.drew.heap[g]? = some (.cells cur 5 (0, 0)) := hg; simp [World.shape?, hg'])
   have c2 : (W.drew.alloc (.view ⟨g, 0, none⟩ 5)).cell? ⟨p, 1, none⟩ = some (.slice (some ⟨g, 0, none⟩) 0 0) := by
    have : (W.drew.alloc (.view ⟨g, 0, none⟩ 5)).heap[p]? = _ := (Lib.alloc_old W.drew _ p hplt).trans hp
    rw [Lib.cell_of_heap this]; rfl
   have c3 : (W.alloc (.view ⟨g, 0, none⟩ 5)).drew.cell? ⟨p, 1, none⟩ = some (.slice (some ⟨g, 0, none⟩) 0 0) := c2
   clear hown hp ha hne
   go_enter Tryz.func24, Tryz.ntmps24
   go_wp2
   go_region
   all_goals (go_wp2; go_ret; exact ⟨rfl, (Below.drew (Below.refl base W)).alloc hB _, ⟨(KeepsOthers.alloc W _).size, fun k o h ho => (KeepsOthers.alloc W _).same k o h ho⟩⟩)
  ·
   have c1 : W.cell? ⟨p, 1, none⟩ = some (.slice (some ⟨g, 0, none⟩) 0 cap) := blk_cell hp 1
   have hSD : (Builtin.unsafeSliceData_ #[51] 92 #[.slice (some ⟨g, 0, none⟩) 0 cap]).run Tryz.prog W.drew = .ok (.pointer (some ⟨g, 0, none⟩)) W.drew :=
    Lib.run_unsafeSliceData_row _ _ _ _ _ _ hc
   clear hown hp ha hne
   go_enter Tryz.func24, Tryz.ntmps24
   go_wp2
   go_region
   all_goals (go_wp2; go_ret; exact ⟨rfl, Below.drew (Below.refl base W), ⟨Nat.le_refl _, fun _ _ h _ => h⟩⟩)
theorem bstr_all (W : World) (base p : Nat) (s : ByteArray) (h : Bu W base p s) (hB : base ≤ W.heap.size) :
  Calls Tryz.prog 24 #[.pointer (some ⟨p, 0, none⟩)] W fun e w' => e = .returned (.string s) ∧ Below base W w' ∧ KeepsOthers W w' := by
 by_cases h0 : s.size = 0
 ·
  exact bstr_nil W base p s h h0 hB
 ·
  exact bstr_is W base p s h h0
abbrev TX : Type := { s : ByteArray // s.size ≤ 100000 }
def mkX (s : ByteArray) : TX := if h : s.size ≤ 100000 then ⟨s, h⟩ else ⟨⟨#[]⟩, by decide⟩
theorem mkX_val {s : ByteArray} (h : s.size ≤ 100000) : (mkX s).1 = s := by unfold mkX; rw [dif_pos h]
mutual
def texT : S25 → List TX
 | ⟨_, _, f2, _, f4⟩ => mkX f2 :: texL f4
def texL : List S25 → List TX
 | [] => []
 | t :: ts => texT t ++ texL ts
end
theorem texT_eq (t : S25) : texT t = mkX t.f2 :: texL t.f4 := by cases t; rw [texT]
theorem texL_append : ∀ a b : List S25, texL (a ++ b) = texL a ++ texL b
 | [], b => by rw [List.nil_append, texL, List.nil_append]
 | x :: a, b => by rw [List.cons_append, texL, texL, texL_append a b, List.append_assoc]
theorem texL_take {l : List S25} {j : Nat} (h : j < l.length) : texL (l.take (j + 1)) = texL (l.take j) ++ texT l[j] := by
 rw [List.take_add_one, List.getElem?_eq_getElem h, texL_append]
 simp [texL]
structure KpT (n0 : Nat) (W W' : World) : Prop where
 below : Below n0 W W'
 tree : ∀ (N : Nat) (cs : Array Value), W.heap[N]? = some (.cells cs 25 (0, 0)) → W'.heap[N]? = some (.cells cs 25 (0, 0))
theorem KpT.refl (n0 : Nat) (W : World) : KpT n0 W W := ⟨Below.refl _ _, fun _ _ h => h⟩
theorem KpT.trans {n0 : Nat} {A B C : World} (h : KpT n0 A B) (k : KpT n0 B C) : KpT n0 A C := ⟨h.below.trans k.below, fun N cs hN => k.tree N cs (h.tree N cs hN)⟩
theorem KpT.of {n0 : Nat} {W W' : World} (h : Below W.heap.size W W') (hn : n0 ≤ W.heap.size) : KpT n0 W W' := ⟨h.mono hn, fun _ _ hN => blk_below hN h⟩
theorem room_none {F : Fence} (hd : F.depth = none) (k : Nat) : F.room k := fun d h => by rw [hd] at h; cases h
theorem RoundIn_any {F : Fence} (hd : F.depth = none) {m m' : Nat} {P : Program} {l : Nat} {f : FuncId} {tmps : Array Value} {assign body : Code} {w : World} {R : Ending → World → Prop}
  (h : RoundIn F m P l f tmps assign body w R) : RoundIn F m' P l f tmps assign body w R := ⟨h.1, fun c cs _ => h.2 c cs (room_none hd _)⟩
theorem YieldAt_any {F : Fence} (hd : F.depth = none) {m : Nat} (m' : Nat) {P : Program} {l : Nat} {args : Array Value} {W : World} {R : Ending → World → Prop} (h : YieldAt F m P l args W R) : YieldAt F m' P l args W R := by
 obtain ⟨fn, tmps, assign, body, hy, hR⟩ := h
 exact ⟨fn, tmps, assign, body, hy, RoundIn_any hd hR⟩
attribute [local go_sem] Oper.semAt_some
set_option maxRecDepth 100000 in
set_option maxHeartbeats 4000000 in
theorem texts_in (l B0 N : Nat) (J Jx : List TX → World → Prop) (hJ : AbidesFrom B0 J) (w0 : World)
  (hY : ∀ m pre (x : TX) W, J pre W → pre.length < N → YieldAt Fence.wide m Tryz.prog l #[.string x.1] W fun e W' => (e = .returned (.bool true) ∧ J (pre ++ [x]) W' ∧ KpT w0.heap.size W W') ∨ (e = .returned (.bool false) ∧ Jx (pre ++ [x]) W')) (M : Nat) :
  ∀ (t : S25) (_ : SizeOf.sizeOf t < M) (n : Nat) (A3 : Option Addr) (n3 c3 : Nat) (A4 : Option Addr) (c4 : Nat) (pre : List TX) (W : World), Below w0.heap.size w0 W → Kd.C k25 w0 A4 t.f4.length t.f4 → fitT t = true → J pre W → pre.length + (texT t).length ≤ N →
   CallsIn Fence.wide n Tryz.prog 27 #[.agg #[.string t.f0, .string t.f1, .string t.f2, .slice A3 n3 c3, .slice A4 t.f4.length c4], .func (.yield l) #[] #[]] W fun e W' =>
    (e = .returned (.bool true) ∧ J (pre ++ texT t) W' ∧ KpT w0.heap.size W W') ∨ (e = .returned (.bool false) ∧ ∃ q, q <+: texT t ∧ Jx (pre ++ q) W') := by
 induction M with
 | zero => intro t h; omega
 | succ M ih =>
  intro t ht n A3 n3 c3 A4 c4 pre W hb hr4 hfit hJ0 hN
  obtain ⟨W1, hW1⟩ : ∃ V, W.alloc (.cells #[.string t.f0, .string t.f1, .string t.f2, .slice A3 n3 c3, .slice A4 t.f4.length c4] 25) = V := ⟨_, rfl⟩
  obtain ⟨K, hK⟩ : ∃ K, W.heap.size = K := ⟨_, rfl⟩
  have hal := below_alloc (Below.refl W.heap.size W) (.cells #[.string t.f0, .string t.f1, .string t.f2, .slice A3 n3 c3, .slice A4 t.f4.length c4] 25)
  rw [hW1] at hal
  have hx1 : W1.heap[K]? = some (.cells #[.string t.f0, .string t.f1, .string t.f2, .slice A3 n3 c3, .slice A4 t.f4.length c4] 25 (0, 0)) := by rw [← hW1]; exact blk_newr hK
  have hJ1 : J pre W1 := by rw [← hW1]; exact hJ _ _ _ none hJ0 (World.grownBy_alloc W _ none) (fun r e => by cases e)
  have hk1 : KpT w0.heap.size W W1 := KpT.of hal hb.size
  have hlen1 : (texT t).length = 1 + (texL t.f4).length := by rw [texT_eq, List.length_cons]; omega
  obtain ⟨fn, tmps, assign, body, hy, hR⟩ := hY (n - 1) pre (mkX t.f2) W1 hJ1 (by omega)
  rw [mkX_val (fit_parts hfit).2.1] at hy
  have hn4b := (fit_parts hfit).2.2.2.2.2
  have HF4 := Aside0.mk (fit_parts hfit).2.2.2.1
  obtain ⟨n4, hn4⟩ : ∃ n, t.f4.length = n := ⟨_, rfl⟩
  rw [hn4] at hW1 hx1 hn4b ⊢
  have HN4 := Lib.hid hn4
  have x2 : W1.cell? ⟨K, 2, none⟩ = some (.string t.f2) := blk_cell hx1 2
  have HX1 := Aside0.mk hx1
  have HK1 := Aside0.mk hk1
  have HR4 := Aside0.mk hr4
  have HIH := Aside0.mk ih
  have HT := Aside0.mk ht
  have HB := Aside0.mk hb
  have HNN : Aside0 (pre.length + 1 + (texL t.f4).length ≤ N) := ⟨by omega⟩
  have HJ := Aside0.mk hJ
  obtain ⟨X, hX⟩ : ∃ X, pre ++ [mkX t.f2] = X := ⟨_, rfl⟩
  have hXl : X.length = pre.length + 1 := by rw [← hX]; simp
  have hXt : pre ++ texT t = X ++ texL t.f4 := by rw [← hX, texT_eq]; simp
  have hXp : ∀ q, q <+: texL t.f4 → ∃ q', q' <+: texT t ∧ pre ++ q' = X ++ q := fun q hq => ⟨mkX t.f2 :: q, by rw [texT_eq]; exact (List.prefix_cons_inj _).2 hq, by rw [← hX]; simp⟩
  have hX0 : ∃ q', q' <+: texT t ∧ pre ++ q' = X := ⟨[mkX t.f2], by rw [texT_eq]; exact ⟨texL t.f4, rfl⟩, hX⟩
  rw [hX] at hR
  have HXL := Aside0.mk hXl
  have HXT := Aside0.mk hXt
  have HXP := Aside0.mk hXp
  have HX0 := Aside0.mk hX0
  clear hal hx1 hk1 hr4 ih ht hb hJ hJ0 hJ1 hN hfit hlen1 hY hn4 hX hXl hXt hXp hX0
  refine callsIn_of_wp Tryz.func27 rfl trivial ?_ rfl
  simp only [Tryz.ntmps27, List.size_toArray, List.length_cons, List.length_nil, Nat.reduceAdd, Nat.reduceSub, Array.replicate_succ, Array.replicate_zero, List.push_toArray, List.append_toArray, List.nil_append, List.cons_append]
  gi_wp2
  refine ⟨fun h => (by cases h), ?_⟩
  refine hR.mono ?_
  clear hR hy
  rintro e W2 (⟨rfl, hJ2, hk2⟩ | ⟨rfl, hJx2⟩)
  rotate_left
  ·
   have HJX := Aside0.mk hJx2
   clear hJx2
   gi_wp2
   go_ret
   obtain ⟨q, hq, e⟩ := HX0.out
   exact .inr ⟨rfl, q, hq, by rw [e]; exact HJX.out⟩
  have hx2 := hk2.tree K _ HX1.out
  have x4 : W2.cell? ⟨K, 4, none⟩ = some (.slice A4 n4 c4) := blk_cell hx2 4
  have HK2 := Aside0.mk (HK1.out.trans hk2)
  have HJ2 : Aside0 (J (X ++ texL (t.f4.take 0)) W2) := ⟨by rw [List.take_zero, texL, List.append_nil]; exact hJ2⟩
  clear hJ2 hk2 hx2 x2
  gi_wp2
  gi_loopw [15] (fun i wr => ∃ j : Nat, j ≤ n4 ∧ i = .int .i64 j ∧ Aside0 (J (X ++ texL (t.f4.take j)) wr) ∧ Aside0 (KpT w0.heap.size W wr)) (fun i _ => n4 - (intOf i).toNat)
  case atStart => exact ⟨0, by omega, rfl, HJ2, HK2⟩
  case round =>
   obtain ⟨j, hj, rfl, HJj, HKj⟩ := hrel
   clear x4
   by_cases hlt : j < n4
   ·
    have hjl : j < t.f4.length := by have := HN4.out; omega
    have hbw : Below w0.heap.size w0 wr := HB.out.trans HKj.out.below
    obtain ⟨ad, A3', c3', A4', c4', rfl, e0, e1, e2, e3, e4, hl3, hC3, hl4, hC4⟩ := at_T25 HR4.out (j : Int) (by omega) (by have := HN4.out; omega)
    have hx : rd_T25 t.f4 (j : Int) = t.f4[j] := by unfold rd_T25; rw [Int.toNat_natCast, List.getD_eq_getElem?_getD, List.getElem?_eq_getElem hjl, Option.getD_some]
    simp only [Int.toNat_natCast] at e0 e1 e2 e3 e4
    rw [hx] at e0 e1 e2 e3 e4 hl3 hC3 hl4 hC4
    have hfx := fitL_get t.f4 j hjl HF4.out
    have hszx := pkid_lt hjl
    have htk := texL_take hjl
    have hln : X.length + (texL (t.f4.take (j + 1))).length ≤ N := by
     have h1 := HNN.out
     have h2 := HXL.out
     have h3 := congrArg List.length (texL_append (t.f4.take (j + 1)) (t.f4.drop (j + 1)))
     rw [List.take_append_drop, List.length_append] at h3
     omega
    obtain ⟨x, hxe⟩ : ∃ x, t.f4[j] = x := ⟨_, rfl⟩
    rw [hxe] at e0 e1 e2 e3 e4 hfx hszx hl3 hC3 hl4 hC4 htk
    replace e0 := pw_cell_below hbw e0
    replace e1 := pw_cell_below hbw e1
    replace e2 := pw_cell_below hbw e2
    replace e3 := pw_cell_below hbw e3
    replace e4 := pw_cell_below hbw e4
    obtain ⟨m3, hm3⟩ : ∃ m, x.f3.length = m := ⟨_, rfl⟩
    rw [hm3] at e3
    obtain ⟨W4, hW4⟩ : ∃ V, wr.alloc (.cells #[.string x.f0, .string x.f1, .string x.f2, .slice A3' m3 c3', .slice A4' x.f4.length c4'] 25) = V := ⟨_, rfl⟩
    obtain ⟨Q, hQ⟩ : ∃ Q, wr.heap.size = Q := ⟨_, rfl⟩
    have hal := below_alloc (Below.refl wr.heap.size wr) (.cells #[.string x.f0, .string x.f1, .string x.f2, .slice A3' m3 c3', .slice A4' x.f4.length c4'] 25)
    rw [hW4] at hal
    have hx4 : W4.heap[Q]? = some (.cells #[.string x.f0, .string x.f1, .string x.f2, .slice A3' m3 c3', .slice A4' x.f4.length c4'] 25 (0, 0)) := by rw [← hW4]; exact blk_newr hQ
    have hJ4 : J (X ++ texL (t.f4.take j)) W4 := by rw [← hW4]; exact HJ.out _ _ _ none HJj.out (World.grownBy_alloc wr _ none) (fun r e => by cases e)
    have hk4 : KpT w0.heap.size wr W4 := KpT.of hal hbw.size
    have hcall := HIH.out x (by have := HT.out; omega) (n - 1) A3' m3 c3' A4' c4' (X ++ texL (t.f4.take j)) W4 (hbw.trans hk4.below) hC4 hfx hJ4 (by rw [htk] at hln; simp only [List.length_append] at hln ⊢; omega)
    rw [List.append_assoc, ← htk] at hcall
    obtain ⟨m4, hm4⟩ : ∃ m, x.f4.length = m := ⟨_, rfl⟩
    rw [hm4] at e4 hW4 hx4 hcall
    have z0 : W4.cell? ⟨Q, 0, none⟩ = some (.string x.f0) := blk_cell hx4 0
    have z1 : W4.cell? ⟨Q, 1, none⟩ = some (.string x.f1) := blk_cell hx4 1
    have z2 : W4.cell? ⟨Q, 2, none⟩ = some (.string x.f2) := blk_cell hx4 2
    have z3 : W4.cell? ⟨Q, 3, none⟩ = some (.slice A3' m3 c3') := blk_cell hx4 3
    have z4 : W4.cell? ⟨Q, 4, none⟩ = some (.slice A4' m4 c4') := blk_cell hx4 4
    have HCALL := Aside0.mk hcall
    have HK4 := Aside0.mk (HKj.out.trans hk4)
    have HTK := Aside0.mk htk
    have HPX : Aside0 (∀ q, q <+: texT x → ∃ q', q' <+: texT t ∧ pre ++ q' = X ++ texL (t.f4.take j) ++ q) := ⟨fun q hq => by
     obtain ⟨r, hr⟩ := hq
     obtain ⟨q', h1, h2⟩ := HXP.out (texL (t.f4.take j) ++ q) ⟨r ++ texL (t.f4.drop (j + 1)), by
      rw [List.append_assoc, ← List.append_assoc q, hr, ← List.append_assoc, ← HTK.out, ← texL_append, List.take_append_drop]⟩
     exact ⟨q', h1, by rw [h2, List.append_assoc]⟩⟩
    clear hcall hal hx4 hJ4 hk4 hm3 hm4 hxe hx hfx hszx htk hln hl3 hC3 hl4 hC4 hbw hjl HJj
    gi_wp2
    refine ⟨trivial, fun h => (by cases h), HCALL.out.mono ?_⟩
    rintro e W5 (⟨rfl, hJ5, hk5⟩ | ⟨rfl, q, hq, hJx5⟩)
    ·
     have HJ5 := Aside0.mk hJ5
     have HK5 := Aside0.mk (HK4.out.trans hk5)
     clear hJ5 hk5 e0 e1 e2 e3 e4 z0 z1 z2 z3 z4 hW4 hQ HCALL HK4 HTK HPX HKj
     gi_wp2
     go_roundw
     case rel => exact ⟨j + 1, by omega, by go_num, HJ5, HK5⟩
     case measure => simp [intOf]; omega
    ·
     obtain ⟨q', h1, h2⟩ := HPX.out q hq
     rw [← h2] at hJx5
     have HJX := Aside0.mk hJx5
     have HQ1 := Aside0.mk h1
     clear hJx5 h1 h2 hq e0 e1 e2 e3 e4 z0 z1 z2 z3 z4 hW4 hQ HCALL HK4 HTK HPX HKj
     gi_wp2
     go_ret
     exact .inr ⟨rfl, q', HQ1.out, HJX.out⟩
   ·
    obtain rfl : n4 = j := by omega
    gi_wp2
    go_ret
    refine .inl ⟨rfl, ?_, HKj.out⟩
    have h := HJj.out
    rw [List.take_of_length_le (by have := HN4.out; omega), ← HXT.out] at h
    exact h
set_option maxRecDepth 100000 in
set_option maxHeartbeats 2000000 in
theorem texts1_in (n : Nat) (l B0 N : Nat) (J Jx : List TX → World → Prop) (hJ : AbidesFrom B0 J) (w0 : World)
  (hY : ∀ m pre (x : TX) W, J pre W → pre.length < N → YieldAt Fence.wide m Tryz.prog l #[.string x.1] W fun e W' => (e = .returned (.bool true) ∧ J (pre ++ [x]) W' ∧ KpT w0.heap.size W W') ∨ (e = .returned (.bool false) ∧ Jx (pre ++ [x]) W'))
  (t : S25) (Bt : Nat) (A3 : Option Addr) (n3 c3 : Nat) (A4 : Option Addr) (c4 : Nat) (W : World) (hb : Below w0.heap.size w0 W) (hBt : W.heap[Bt]? = some (.cells #[.string t.f0, .string t.f1, .string t.f2, .slice A3 n3 c3, .slice A4 t.f4.length c4] 25 (0, 0))) (hr4 : Kd.C k25 w0 A4 t.f4.length t.f4) (hfit : fitT t = true) (h0 : J [] W) (hN : (texT t).length ≤ N) :
  CallsIn Fence.wide n Tryz.prog 26 #[.func (.yield l) #[] #[], .pointer (some ⟨Bt, 0, none⟩)] W fun e W' => (∃ v, e = .returned v) ∧ ((∃ ys, ys = texT t ∧ J ys W') ∨ (∃ pre, pre <+: texT t ∧ Jx pre W')) := by
 have hcall := texts_in l B0 N J Jx hJ w0 hY _ t (Nat.lt_succ_self _) (n - 1) A3 n3 c3 A4 c4 [] W hb hr4 hfit h0 (by simpa using hN)
 obtain ⟨n4, hn4⟩ : ∃ n, t.f4.length = n := ⟨_, rfl⟩
 rw [hn4] at hBt hcall
 have z0 : W.cell? ⟨Bt, 0, none⟩ = some (.string t.f0) := blk_cell hBt 0
 have z1 : W.cell? ⟨Bt, 1, none⟩ = some (.string t.f1) := blk_cell hBt 1
 have z2 : W.cell? ⟨Bt, 2, none⟩ = some (.string t.f2) := blk_cell hBt 2
 have z3 : W.cell? ⟨Bt, 3, none⟩ = some (.slice A3 n3 c3) := blk_cell hBt 3
 have z4 : W.cell? ⟨Bt, 4, none⟩ = some (.slice A4 n4 c4) := blk_cell hBt 4
 have HCALL := Aside0.mk hcall
 clear hcall hn4 hBt hr4 hfit h0 hN hb hY hJ
 refine callsIn_of_wp Tryz.func26 rfl trivial ?_ rfl
 simp only [Tryz.ntmps26, List.size_toArray, List.length_cons, List.length_nil, Nat.reduceAdd, Nat.reduceSub, Array.replicate_succ, Array.replicate_zero, List.push_toArray, List.append_toArray, List.nil_append, List.cons_append]
 gi_wp2
 refine ⟨trivial, fun h => (by cases h), HCALL.out.mono ?_⟩
 rintro e W5 (⟨rfl, hJ5, hk5⟩ | ⟨rfl, q, hq, hJx5⟩)
 ·
  gi_wp2
  go_end0
  exact ⟨⟨_, rfl⟩, .inl ⟨_, rfl, by simpa using hJ5⟩⟩
 ·
  gi_wp2
  go_end0
  exact ⟨⟨_, rfl⟩, .inr ⟨q, hq, by simpa using hJx5⟩⟩
def encX (x : TX) : Array Value := #[.string x.1]
theorem texts_stops (n : Nat) (w0 w : World) (t : S25) (Bt : Nat) (A3 : Option Addr) (n3 c3 : Nat) (A4 : Option Addr) (c4 : Nat) (hb : Below w0.heap.size w0 w) (hBt : w.heap[Bt]? = some (.cells #[.string t.f0, .string t.f1, .string t.f2, .slice A3 n3 c3, .slice A4 t.f4.length c4] 25 (0, 0))) (hr4 : Kd.C k25 w0 A4 t.f4.length t.f4) (hfit : fitT t = true) :
  SeqStopsK Fence.wide n Tryz.prog 26 #[.pointer (some ⟨Bt, 0, none⟩)] encX (KpT w0.heap.size) (fun ys => ys = texT t) (fun pre => pre <+: texT t) (texT t).length w := fun l J Jx W hW hJ _ hY h0 =>
 texts1_in n l _ _ J Jx hJ w0 (fun m pre x W hj hl => YieldAt_any rfl m (hY pre x W hj hl)) t Bt A3 n3 c3 A4 c4 W (hb.trans (hW.mono hb.size)) (blk_below hBt hW) hr4 hfit h0 (Nat.le_refl _)
def cat (l : List TX) : ByteArray := l.foldl (fun s x => s ++ x.1) ⟨#[]⟩
theorem cat_snoc (l : List TX) (x : TX) : cat (l ++ [x]) = cat l ++ x.1 := by simp [cat]
theorem cat_size (l : List TX) : (cat l).size ≤ 100000 * l.length := by
 have : ∀ (l : List TX) (s : ByteArray), (l.foldl (fun s x => s ++ x.1) s).size ≤ s.size + 100000 * l.length := by
  intro l
  induction l with
  | nil => intro s; simp
  | cons x l ih =>
   intro s
   have h := ih (s ++ x.1)
   have h2 := x.2
   rw [ByteArray.size_append] at h
   rw [List.foldl_cons, List.length_cons]
   omega
 have h := this l ⟨#[]⟩
 have e : (⟨#[]⟩ : ByteArray).size = 0 := rfl
 unfold cat
 omega
theorem Bu.own {W W' : World} {base p : Nat} {s : ByteArray} {row : Option Nat} (h : Bu W base p s) (hg : W.grownBy W' row) (hr : ∀ r, row = some r → ∃ o : Obj, W.heap[r]? = some o ∧ o.isCells = false) : Bu W' base p s := by
 obtain ⟨h1, av, v, h2, h3, h4, h5⟩ := h
 have hp : W'.heap[p]? = some (.cells #[av, v] 53 (0, 0)) := (hg.block p (blk_lt h2) (fun e => by
  obtain ⟨o, ho, hc⟩ := hr p e.symm
  rw [h2] at ho
  cases ho
  cases hc)).trans h2
 cases hv : v.ownBlock with
 | none => exact ⟨h1, av, v, hp, h3, h4.kept hg (Or.inl hv), h5⟩
 | some k =>
  refine ⟨h1, av, v, hp, h3, h4.kept hg (Or.inr (fun e => ?_)), h5⟩
  obtain ⟨cs, hcs⟩ := own_typed h4 k hv
  obtain ⟨o, ho, hc⟩ := hr k (by first | exact e.symm.trans hv | exact e.trans hv | (rw [← hv]; exact e) | (rw [← hv]; exact e.symm))
  rw [hcs] at ho
  cases ho
  cases hc
structure TxInv (w0 : World) (p : Nat) (pre : List TX) (W : World) : Prop where
 bu : Bu W w0.heap.size p (cat pre)
 below : Below w0.heap.size w0 W
theorem txInv_own {w0 : World} {p B : Nat} (hB : w0.heap.size ≤ B) : OwnFrom B (TxInv w0 p) := by
 rintro s X Y row ⟨h1, h2⟩ hg hr
 exact ⟨h1.own hg (fun r e => (hr r e).2), h2.grown hg h2.size (fun k e => Nat.le_trans hB (hr k e).1)⟩
set_option maxRecDepth 100000 in
set_option maxHeartbeats 4000000 in
theorem texts_is (t : S25) (er : Int) (A3 : Option Addr) (c3 : Nat) (A4 : Option Addr) (c4 : Nat) (w : World) (hr3 : Kd.C k91 w A3 t.f3.length t.f3) (hc3 : t.f3.length ≤ c3) (hr4 : Kd.C k25 w A4 t.f4.length t.f4) (hc4 : t.f4.length ≤ c4) (hch : tree_Check.f t.f0 t.f1 t.f2 t.f3 t.f4 = some er)
  (hf : er = 0 → fitT t = true ∧ (texT t).length ≤ 1000000) :
  Calls Tryz.prog 10 #[.agg #[.string t.f0, .string t.f1, .string t.f2, .slice A3 t.f3.length c3, .slice A4 t.f4.length c4]] w fun e w' => e = .returned (.tuple #[.string (if er = 0 then cat (texT t) else ⟨#[]⟩), .int .i64 er]) ∧ Below w.heap.size w w' := by
 obtain ⟨W1, hW1⟩ : ∃ W, w.alloc (.cells #[.string t.f0, .string t.f1, .string t.f2, .slice A3 t.f3.length c3, .slice A4 t.f4.length c4] 25) = W := ⟨_, rfl⟩
 obtain ⟨N, hN⟩ : ∃ N, w.heap.size = N := ⟨_, rfl⟩
 have hb1 : Below w.heap.size w W1 := by rw [← hW1]; exact below_alloc (Below.refl _ _) _
 have hx1 : W1.heap[N]? = some (.cells #[.string t.f0, .string t.f1, .string t.f2, .slice A3 t.f3.length c3, .slice A4 t.f4.length c4] 25 (0, 0)) := by rw [← hW1]; exact blk_newr hN
 have hcall := tree_Check.calls t.f0 t.f1 t.f2 A3 c3 t.f3 A4 c4 t.f4 er W1 (Kd.C_below hr3 hb1) hc3 (Kd.C_below hr4 hb1) hc4 hch
 have HB1 := Aside0.mk hb1
 have HR4 := Aside0.mk hr4
 have HF : Aside0 (er = 0 → fitT t = true ∧ (texT t).length ≤ 1000000) := ⟨hf⟩
 obtain ⟨n3, hn3⟩ : ∃ n, t.f3.length = n := ⟨_, rfl⟩
 obtain ⟨n4, hn4⟩ : ∃ n, t.f4.length = n := ⟨_, rfl⟩
 have HN4 := Lib.hid hn4
 rw [hn3, hn4] at hW1 hx1 hcall
 rw [hn3, hn4]
 have HX1 := Aside0.mk hx1
 have HCALL := Aside0.mk hcall
 have x0 : W1.cell? ⟨N, 0, none⟩ = some (.string t.f0) := blk_cell hx1 0
 have x1 : W1.cell? ⟨N, 1, none⟩ = some (.string t.f1) := blk_cell hx1 1
 have x2 : W1.cell? ⟨N, 2, none⟩ = some (.string t.f2) := blk_cell hx1 2
 have x3 : W1.cell? ⟨N, 3, none⟩ = some (.slice A3 n3 c3) := blk_cell hx1 3
 have x4 : W1.cell? ⟨N, 4, none⟩ = some (.slice A4 n4 c4) := blk_cell hx1 4
 have HNW : Aside0 (N = w.heap.size) := ⟨hN.symm⟩
 clear hb1 hr3 hr4 hc3 hc4 hf hn3 hn4 hx1 hcall hch
 refine (callsIn_wide (n := 3)).1 ?_
 refine callsIn_of_wp_marks Tryz.func10 rfl trivial ?_ rfl
 simp only [Tryz.ntmps10, List.size_toArray, List.length_cons, List.length_nil, Nat.reduceAdd, Nat.reduceSub, Array.replicate_succ, Array.replicate_zero, List.push_toArray, List.append_toArray, List.nil_append, List.cons_append]
 by_cases he : er = 0
 ·
  subst he
  have HG : Aside0 (fitT t = true ∧ (texT t).length ≤ 1000000) := ⟨HF.out rfl⟩
  clear HF
  rw [if_pos rfl]
  gi_wp2_with fail
  refine ⟨trivial, (callsIn_wide.2 HCALL.out).mono ?_⟩
  rintro e w2 ⟨rfl, hb2⟩
  have HB2 := Aside0.mk (HB1.out.trans (hb2.mono HB1.out.size))
  have HX2 := Aside0.mk (blk_below HX1.out hb2)
  clear hb2 x0 x1 x2 x3 x4 HCALL
  gi_wp2_with fail
  obtain ⟨w3, hw3⟩ : ∃ W, w2.alloc (.cells #[.pointer none, .slice none 0 0] 53) = W := ⟨_, rfl⟩
  obtain ⟨p, hp⟩ : ∃ p, w2.heap.size = p := ⟨_, rfl⟩
  have hal := below_alloc (Below.refl w2.heap.size w2) (.cells #[.pointer none, .slice none 0 0] 53)
  rw [hw3] at hal
  have hbp : w3.heap[p]? = some (.cells #[.pointer none, .slice none 0 0] 53 (0, 0)) := by rw [← hw3]; exact blk_newr hp
  have hb3 : Below w.heap.size w w3 := HB2.out.trans (hal.mono HB2.out.size)
  have hx3 := blk_below HX2.out hal
  have hbu : Bu w3 w.heap.size p (cat []) := ⟨by rw [← hp]; exact HB2.out.size, _, _, hbp, Or.inl rfl, ⟨by first | rfl | (simp [Lib.strCells]; rfl), Or.inl ⟨rfl, rfl⟩⟩, by simp [Value.ownBlock]⟩
  rw [hw3, hp]
  rw [← HN4.out] at hx3
  refine wpIn_rangeFunc_ownF (α := TX) (N := (texT t).length) (encs := encX) (Kp := KpT w.heap.size) (S := fun ys => ys = texT t) (Sp := fun pre => pre <+: texT t) (w0 := w3) rfl (by omega) (gf := 26) (lb := #[.pointer (some ⟨N, 0, none⟩)]) rfl trivial (enters_of Tryz.func26 (by kernel_rfl) rfl)
   (texts_stops (3 - 1) w w3 t N A3 n3 c3 A4 c4 hb3 hx3 HR4.out HG.out.1) (fun h k => h.trans k)
   (fun W l o o' hl hoo hcf _ => ⟨belowK_b hb3.size W l o o' hl hoo hcf ‹_›, fun M cs hM => (World.putObj_heap_other (by
    rintro rfl
    rw [hM] at hoo
    cases hoo
    cases hcf)).trans hM⟩)
   (Below.refl _ _) (fun _ => rfl) (TxInv w p) (fun _ _ _ => False) (txInv_own hb3.size) (fun _ _ _ _ _ hs _ _ => hs) ⟨hbu, hb3⟩
   (fun x => { tmps := #[.agg #[.string t.f0, .string t.f1, .string t.f2, .slice A3 n3 c3, .slice A4 n4 c4], .pointer (some ⟨N, 0, none⟩), .string ⟨#[]⟩, .int .i64 0, .int .i64 0, .pointer (some ⟨p, 0, none⟩), .string x.1, .agg #[.string t.f0, .string t.f1, .string t.f2, .slice A3 n3 c3, .slice A4 n4 c4], .int .i64 0, .int .i64 0, .bool false, undef, .func (.func 26) #[] #[.pointer (some ⟨N, 0, none⟩)], .string x.1, undef, undef, undef], defers := [] }) ?assign ?body ?done ?stop
  case assign =>
   intro l x W K hK
   have HK := Aside0.mk hK
   clear hK hbu hbp hx3 hb3 hal hw3
   simp only [encX]
   gi_wp2
   exact HK.out
  case body =>
   rintro l pre x W ⟨h1, h2⟩ hlt
   have hsz := cat_size pre
   have hN6 := HG.out.2
   have hx := x.2
   have HW := Aside0.mk (bwrite_is W w.heap.size p (cat pre) x.1 h1 h2.size (by omega))
   have H2 := Aside0.mk h2
   clear h1 h2 hsz hbu hbp hx3 hb3 hal hw3
   gi_wp2
   refine ⟨trivial, (CallsIn.inRound l (callsIn_wide.2 HW.out)).mono ?_⟩
   rintro e W' ⟨rfl, hb1, hk1, hbl1⟩
   have H1 := Aside0.mk hb1
   have HK1 := Aside0.mk hk1
   have HBL := Aside0.mk hbl1
   clear hb1 hk1 hbl1 HW
   gi_wp2
   refine ⟨⟨HK1.out.size, fun k o hk ho => HK1.out.same k o hk (fun cs fr e => by subst e; cases ho) (fun cs e => by subst e; cases ho)⟩, ⟨HBL.out, fun M cs hM => HK1.out.same M _ hM (fun cs fr e => by cases e) (fun cs e => by cases e)⟩, ⟨?_, H2.out.trans HBL.out⟩⟩
   rw [cat_snoc]
   exact H1.out
  case done =>
   rintro D xs W hD rfl ⟨h1, h2⟩ hK
   have HBU := Aside0.mk (bstr_all W w.heap.size p (cat (texT t)) h1 h2.size)
   have H2 := Aside0.mk h2
   have HK := Aside0.mk hK
   clear h1 h2 hK hbu hbp hx3 hal hw3
   gi_wp2
   refine ⟨trivial, (callsIn_wide.2 HBU.out).mono ?_⟩
   rintro e W' ⟨rfl, hb7, hk7⟩
   have HB7 := Aside0.mk (H2.out.trans hb7)
   have HK7 := Aside0.mk (hk7.same D _ HK.out rfl)
   clear hb7 hk7
   gi_wp2
   refine ⟨by simp, .inl ⟨_, _, rfl, run_takeDeferred HK7.out, ?_⟩⟩
   exact ⟨_, results_tmp2 rfl _ _ _, rfl, HB7.out.grown (grownBy_putObj' W' D _) HB7.out.size (fun k e => by cases e; exact Nat.le_trans hb3.size hD)⟩
  case stop =>
   rintro D c pre W hD _ h _
   exact h.elim
 ·
  have d1 : (er != 0) = true := bne_iff_ne.mpr he
  rw [if_neg he]
  gi_wp2_with fail
  refine ⟨trivial, (callsIn_wide.2 HCALL.out).mono ?_⟩
  rintro e w2 ⟨rfl, hb2⟩
  have HB2 := Aside0.mk (HB1.out.trans (hb2.mono HB1.out.size))
  clear hb2 x0 x1 x2 x3 x4 HCALL
  gi_wp2_with fail
  exact ⟨_, results_tmp2 rfl _ _ _, rfl, HB2.out⟩
def tree_Texts.f (a0_0 : ByteArray) (a0_1 : ByteArray) (a0_2 : ByteArray) (l0_3 : List S91) (l0_4 : List S25) : Option (ByteArray × Int) :=
 (tree_Check.f a0_0 a0_1 a0_2 l0_3 l0_4).bind fun e => if e = 0 then (if fitT ⟨a0_0, a0_1, a0_2, l0_3, l0_4⟩ = true ∧ (texT ⟨a0_0, a0_1, a0_2, l0_3, l0_4⟩).length ≤ 1000000 then some (cat (texT ⟨a0_0, a0_1, a0_2, l0_3, l0_4⟩), 0) else none) else some (⟨#[]⟩, e)
theorem tree_Texts.calls (a0_0 : ByteArray) (a0_1 : ByteArray) (a0_2 : ByteArray) (A0_3 : Option Addr) (c0_3 : Nat) (l0_3 : List S91) (A0_4 : Option Addr) (c0_4 : Nat) (l0_4 : List S25) (r1 : ByteArray) (r2 : Int) (w : World) (hr0_3 : Kd.C k91 w A0_3 l0_3.length l0_3) (hc0_3 : l0_3.length ≤ c0_3) (hr0_4 : Kd.C k25 w A0_4 l0_4.length l0_4) (hc0_4 : l0_4.length ≤ c0_4) (h : tree_Texts.f a0_0 a0_1 a0_2 l0_3 l0_4 = some (r1, r2)) :
  Calls Tryz.prog 10 #[.agg #[.string a0_0, .string a0_1, .string a0_2, .slice A0_3 l0_3.length c0_3, .slice A0_4 l0_4.length c0_4]] w fun e w' => e = .returned (.tuple #[.string r1, .int .i64 r2]) ∧ Below w.heap.size w w' := by
 unfold tree_Texts.f at h
 obtain ⟨e, he, h⟩ := Option.bind_eq_some_iff.mp h
 by_cases hz : e = 0
 ·
  rw [if_pos hz] at h
  split at h
  ·
   rename_i hk
   subst hz
   cases h
   have hs := texts_is ⟨a0_0, a0_1, a0_2, l0_3, l0_4⟩ 0 A0_3 c0_3 A0_4 c0_4 w hr0_3 hc0_3 hr0_4 hc0_4 he (fun _ => hk)
   rw [if_pos rfl] at hs
   exact hs
  ·
   cases h
 ·
  rw [if_neg hz] at h
  cases h
  have hs := texts_is ⟨a0_0, a0_1, a0_2, l0_3, l0_4⟩ r2 A0_3 c0_3 A0_4 c0_4 w hr0_3 hc0_3 hr0_4 hc0_4 he (fun h => absurd h hz)
  rw [if_neg hz] at hs
  exact hs
end Go.Proofs.YtloocmeckpoflaaGreat.D
