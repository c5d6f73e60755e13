import Derived.Test.YtloocmeckpoflaaGreatYD0
import Derived.Test.YtloocmeckpoflaaGreatYD22
namespace Go.Proofs.YtloocmeckpoflaaGreat.D
open Go.RowKit Go.Proofs.YtloocmeckpoflaaGreatW.PrintWords Go.Proofs.YtloocmeckpoflaaGreatW.PrintLast Go.Proofs.YtloocmeckpoflaaGreatW.PrintMore
attribute [local go_sem] max2_int min2_int max_two min_two max_three min_three max_four min_four   -- for this text's walks alone
set_option linter.unusedVariables false
set_option linter.unusedSimpArgs false
def eqA1 (x y : S91) : Bool := (x.f0.toList == y.f0.toList) && (x.f1.toList == y.f1.toList)
def eqAs : List S91 → List S91 → Bool
 | [], [] => true
 | x :: xs, y :: ys => eqA1 x y && eqAs xs ys
 | _, _ => false
mutual
def eqT : S25 → S25 → Bool
 | ⟨f0, f1, f2, f3, f4⟩, u => (f0.toList == u.f0.toList) && ((f1.toList == u.f1.toList) && ((f2.toList == u.f2.toList) && (eqAs f3 u.f3 && eqL f4 u.f4)))
def eqL : List S25 → List S25 → Bool
 | [], [] => true
 | x :: xs, y :: ys => eqT x y && eqL xs ys
 | [], _ :: _ => false
 | _ :: _, [] => false
end
theorem eqT_eq (t u : S25) : eqT t u = ((t.f0.toList == u.f0.toList) && ((t.f1.toList == u.f1.toList) && ((t.f2.toList == u.f2.toList) && (eqAs t.f3 u.f3 && eqL t.f4 u.f4)))) := by
 cases t
 rw [eqT]
theorem blk_newA {W : World} {o : Obj} {k : Nat} (h : W.heap.size = k) : (W.alloc o).heap[k]? = some o := by rw [← h]; exact World.alloc_heap_new W o
mutual
def narT : S25 → Bool
 | ⟨_, _, _, f3, f4⟩ => decide (f3.length ≤ 1000) && (decide (f4.length ≤ 1000) && narL f4)
def narL : List S25 → Bool
 | [] => true
 | t :: ts => narT t && narL ts
end
theorem nar_parts {t : S25} (h : narT t = true) : t.f3.length ≤ 1000 ∧ t.f4.length ≤ 1000 ∧ narL t.f4 = true := by
 cases t
 rw [narT, Bool.and_eq_true, Bool.and_eq_true, decide_eq_true_eq, decide_eq_true_eq] at h
 exact h
theorem narL_mem : ∀ {l : List S25} {x : S25}, narL l = true → x ∈ l → narT x = true
 | y :: ys, x, h, hx => by
  rw [narL, Bool.and_eq_true] at h
  rcases List.mem_cons.1 hx with rfl | hx
  ·
   exact h.1
  ·
   exact narL_mem h.2 hx
theorem akid_lt {t x : S25} (h : x ∈ t.f4) : SizeOf.sizeOf x < SizeOf.sizeOf t := by
 obtain ⟨f0, f1, f2, f3, f4⟩ := t
 have h1 := List.sizeOf_lt_of_mem h
 simp only [S25.mk.sizeOf_spec] at h1 ⊢
 omega
theorem eqAs_len : ∀ (a b : List S91), a.length ≠ b.length → eqAs a b = false
 | [], [], h => absurd rfl h
 | [], y :: b, _ => rfl
 | x :: a, [], _ => rfl
 | x :: a, y :: b, h => by rw [eqAs, eqAs_len a b (by simpa using h), Bool.and_false]
theorem eqAs_run (f g : List S91) (hl : f.length ≤ 1000) : ∃ k, api_Attr_41.f k f g = some (eqAs f g) := by
 by_cases hln : f.length = g.length
 rotate_left
 ·
  refine ⟨0, ?_⟩
  unfold api_Attr_41.f
  rw [if_neg (by omega), eqAs_len f g hln]
 have key : ∀ (d j k : Nat), f.length - j = d → j ≤ f.length → d < k → api_Attr_41.l0 k f g (f.length : Int) (j : Int) = some (eqAs (f.drop j) (g.drop j)) := by
  intro d
  induction d with
  | zero =>
   intro j k hd hj hk
   obtain ⟨k, rfl⟩ : ∃ m, k = m + 1 := ⟨k - 1, by omega⟩
   simp only [api_Attr_41.l0]
   rw [if_neg (by omega), List.drop_of_length_le (by omega), List.drop_of_length_le (by omega)]
   rfl
  | succ d ih =>
   intro j k hd hj hk
   obtain ⟨k, rfl⟩ : ∃ m, k = m + 1 := ⟨k - 1, by omega⟩
   have hjl : j < f.length := by omega
   have hjl2 : j < g.length := by omega
   have hnext := ih (j + 1) k (by omega) (by omega) (by omega)
   have c1 : (j : Int) < (f.length : Int) := by omega
   have c2 : (0 : Int) ≤ (j : Int) := by omega
   have c3 : (j : Int) < (g.length : Int) := by omega
   have hw : wrap64 ((j : Int) + 1) = ((j + 1 : Nat) : Int) := by unfold wrap64; omega
   have hx : rd_T91 f (j : Int) = f[j] := by unfold rd_T91; rw [Int.toNat_natCast, List.getD_eq_getElem?_getD, List.getElem?_eq_getElem hjl, Option.getD_some]
   have hy : rd_T91 g (j : Int) = g[j] := by unfold rd_T91; rw [Int.toNat_natCast, List.getD_eq_getElem?_getD, List.getElem?_eq_getElem hjl2, Option.getD_some]
   simp only [api_Attr_41.l0]
   rw [if_pos c1, if_pos c2, if_pos c1, if_pos c3, hx, hy, hw, hnext, List.drop_eq_getElem_cons hjl, List.drop_eq_getElem_cons hjl2, eqAs, eqA1]
   cases h0 : (f[j].f0.toList == g[j].f0.toList) <;> cases h1 : (f[j].f1.toList == g[j].f1.toList) <;> simp
 refine ⟨f.length + 1, ?_⟩
 unfold api_Attr_41.f
 rw [if_pos (by omega)]
 have h := key f.length 0 (f.length + 1) (by omega) (by omega) (by omega)
 rw [List.drop_zero, List.drop_zero] at h
 exact h
theorem eqL_len : ∀ (a b : List S25), a.length ≠ b.length → eqL a b = false
 | [], [], h => absurd rfl h
 | [], y :: b, _ => by rw [eqL]
 | x :: a, [], _ => by rw [eqL]
 | x :: a, y :: b, h => by rw [eqL, eqL_len a b (by simpa using h), Bool.and_false]
set_option maxRecDepth 100000 in
set_option maxHeartbeats 4000000 in
theorem eqf_is (w0 : World) (ts us : List S25) (A : Option Addr) (c : Nat) (B : Option Addr) (d : Nat) (hts : Kd.C k25 w0 A ts.length ts) (hus : Kd.C k25 w0 B us.length us) (hl : ts.length ≤ 1000)
  (ih : ∀ x ∈ ts, ∀ (y : S25) (A3 : Option Addr) (c3 : Nat) (A4 : Option Addr) (c4 : Nat) (B3 : Option Addr) (d3 : Nat) (B4 : Option Addr) (d4 : Nat) (w : World), Below w0.heap.size w0 w → Kd.C k91 w0 A3 x.f3.length x.f3 → x.f3.length ≤ c3 → Kd.C k25 w0 A4 x.f4.length x.f4 → x.f4.length ≤ c4 → Kd.C k91 w0 B3 y.f3.length y.f3 → y.f3.length ≤ d3 → Kd.C k25 w0 B4 y.f4.length y.f4 → y.f4.length ≤ d4 →
   Calls Tryz.prog 31 #[.agg #[.string x.f0, .string x.f1, .string x.f2, .slice A3 x.f3.length c3, .slice A4 x.f4.length c4], .agg #[.string y.f0, .string y.f1, .string y.f2, .slice B3 y.f3.length d3, .slice B4 y.f4.length d4]] w fun e w' => e = .returned (.bool (eqT x y)) ∧ Below w0.heap.size w w')
  (w : World) (hb : Below w0.heap.size w0 w) :
  Calls Tryz.prog 42 #[.slice A ts.length c, .slice B us.length d, .func (.func 31) #[] #[]] w fun e w' => e = .returned (.bool (eqL ts us)) ∧ Below w0.heap.size w w' := by
 by_cases hln : ts.length = us.length
 rotate_left
 ·
  have he := eqL_len ts us hln
  rw [he]
  have d1 : ((ts.length : Int) != (us.length : Int)) = true := bne_iff_ne.2 (by omega)
  clear ih hts hus he
  go_enter Tryz.func42, Tryz.ntmps42
  go_wp2_with fail
  go_ret
  exact ⟨rfl, Below.refl _ _⟩
 obtain ⟨n, hn⟩ : ∃ n, ts.length = n := ⟨_, rfl⟩
 have hn2 : us.length = n := hln.symm.trans hn
 have HN := Lib.hid hn
 have HN2 := Lib.hid hn2
 have HTS := Aside0.mk hts
 have HUS := Aside0.mk hus
 have HIH := Aside0.mk ih
 have HB := Aside0.mk hb
 have hnb : n ≤ 1000 := by omega
 rw [hn, hn2]
 obtain ⟨R, hR⟩ : ∃ R, eqL ts us = R := ⟨_, rfl⟩
 have HS0 : Aside0 (eqL (ts.drop 0) (us.drop 0) = R) := ⟨by rw [List.drop_zero, List.drop_zero]; exact hR⟩
 rw [hR]
 clear hts hus ih hb hl hln hn hn2 hR
 go_enter Tryz.func42, Tryz.ntmps42
 go_wp2_with fail
 go_loopw [17] (fun i wr => ∃ j : Nat, j ≤ n ∧ i = .int .i64 j ∧ Aside0 (eqL (ts.drop j) (us.drop j) = R) ∧ Aside0 (Below w0.heap.size w wr)) (fun i _ => n - (intOf i).toNat)
 case atStart => exact ⟨0, by omega, rfl, HS0, ⟨Below.refl _ _⟩⟩
 case round =>
  obtain ⟨j, hj, rfl, HS, HBR⟩ := hrel
  by_cases hlt : j < n
  ·
   have hjl : j < ts.length := by have := HN.out; omega
   have hjl2 : j < us.length := by have := HN2.out; omega
   have hbw : Below w0.heap.size w0 wr := HB.out.trans HBR.out
   obtain ⟨ad, A3, c3, A4, c4, rfl, e0, e1, e2, e3, e4, hl3, hC3, hl4, hC4⟩ := at_T25 HTS.out (j : Int) (by omega) (by have := HN.out; omega)
   obtain ⟨bd, B3, d3, B4, d4, rfl, q0, q1, q2, q3, q4, kl3, kC3, kl4, kC4⟩ := at_T25 HUS.out (j : Int) (by omega) (by have := HN2.out; omega)
   have hx : rd_T25 ts (j : Int) = ts[j] := by unfold rd_T25; rw [Int.toNat_natCast, List.getD_eq_getElem?_getD, List.getElem?_eq_getElem hjl, Option.getD_some]
   have hy : rd_T25 us (j : Int) = us[j] := by unfold rd_T25; rw [Int.toNat_natCast, List.getD_eq_getElem?_getD, List.getElem?_eq_getElem hjl2, Option.getD_some]
   simp only [Int.toNat_natCast] at e0 e1 e2 e3 e4 q0 q1 q2 q3 q4
   rw [hx] at e0 e1 e2 e3 e4 hl3 hC3 hl4 hC4
   rw [hy] at q0 q1 q2 q3 q4 kl3 kC3 kl4 kC4
   have hxm := List.getElem_mem hjl
   have hS := HS.out
   rw [List.drop_eq_getElem_cons hjl, List.drop_eq_getElem_cons hjl2, eqL] at hS
   obtain ⟨x, hxe⟩ : ∃ x, ts[j] = x := ⟨_, rfl⟩
   obtain ⟨y, hye⟩ : ∃ y, us[j] = y := ⟨_, rfl⟩
   rw [hxe] at e0 e1 e2 e3 e4 hl3 hC3 hl4 hC4 hxm hS
   rw [hye] at q0 q1 q2 q3 q4 kl3 kC3 kl4 kC4 hS
   obtain ⟨W4, hW4⟩ : ∃ V, wr.alloc (.cells #[.string x.f0, .string x.f1, .string x.f2, .slice A3 x.f3.length c3, .slice A4 x.f4.length c4] 25) = V := ⟨_, rfl⟩
   obtain ⟨P, hP⟩ : ∃ Q, wr.heap.size = Q := ⟨_, rfl⟩
   have hal := below_alloc (Below.refl wr.heap.size wr) (.cells #[.string x.f0, .string x.f1, .string x.f2, .slice A3 x.f3.length c3, .slice A4 x.f4.length c4] 25)
   rw [hW4] at hal
   have hx4 : W4.heap[P]? = some (.cells #[.string x.f0, .string x.f1, .string x.f2, .slice A3 x.f3.length c3, .slice A4 x.f4.length c4] 25 (0, 0)) := by rw [← hW4]; exact blk_newA hP
   have hb4 := hbw.trans (hal.mono hbw.size)
   obtain ⟨W5, hW5⟩ : ∃ V, W4.alloc (.cells #[.string y.f0, .string y.f1, .string y.f2, .slice B3 y.f3.length d3, .slice B4 y.f4.length d4] 25) = V := ⟨_, rfl⟩
   obtain ⟨Q, hQ⟩ : ∃ Q, W4.heap.size = Q := ⟨_, rfl⟩
   have hal5 := below_alloc (Below.refl W4.heap.size W4) (.cells #[.string y.f0, .string y.f1, .string y.f2, .slice B3 y.f3.length d3, .slice B4 y.f4.length d4] 25)
   rw [hW5] at hal5
   have hx5 : W5.heap[P]? = some (.cells #[.string x.f0, .string x.f1, .string x.f2, .slice A3 x.f3.length c3, .slice A4 x.f4.length c4] 25 (0, 0)) := blk_below hx4 hal5
   have hy5 : W5.heap[Q]? = some (.cells #[.string y.f0, .string y.f1, .string y.f2, .slice B3 y.f3.length d3, .slice B4 y.f4.length d4] 25 (0, 0)) := by rw [← hW5]; exact blk_newA hQ
   have hb5 := hb4.trans (hal5.mono hb4.size)
   have hcall := HIH.out x hxm y A3 c3 A4 c4 B3 d3 B4 d4 W5 hb5 hC3 hl3 hC4 hl4 kC3 kl3 kC4 kl4
   replace e0 := pw_cell_below hbw e0
   replace e1 := pw_cell_below hbw e1
   replace e2 := pw_cell_below hbw e2
   replace e3 := pw_cell_below hbw e3
   replace e4 := pw_cell_below hbw e4
   replace q0 := pw_cell_below hb4 q0
   replace q1 := pw_cell_below hb4 q1
   replace q2 := pw_cell_below hb4 q2
   replace q3 := pw_cell_below hb4 q3
   replace q4 := pw_cell_below hb4 q4
   obtain ⟨m3, hm3⟩ : ∃ m, x.f3.length = m := ⟨_, rfl⟩
   obtain ⟨m4, hm4⟩ : ∃ m, x.f4.length = m := ⟨_, rfl⟩
   obtain ⟨p3, hp3⟩ : ∃ m, y.f3.length = m := ⟨_, rfl⟩
   obtain ⟨p4, hp4⟩ : ∃ m, y.f4.length = m := ⟨_, rfl⟩
   rw [hm3] at e3
   rw [hm4] at e4
   rw [hp3] at q3
   rw [hp4] at q4
   rw [hm3, hm4] at hW4 hx5
   rw [hp3, hp4] at hW5 hy5
   rw [hm3, hm4, hp3, hp4] at hcall
   have z0 : W5.cell? ⟨P, 0, none⟩ = some (.string x.f0) := blk_cell hx5 0
   have z1 : W5.cell? ⟨P, 1, none⟩ = some (.string x.f1) := blk_cell hx5 1
   have z2 : W5.cell? ⟨P, 2, none⟩ = some (.string x.f2) := blk_cell hx5 2
   have z3 : W5.cell? ⟨P, 3, none⟩ = some (.slice A3 m3 c3) := blk_cell hx5 3
   have z4 : W5.cell? ⟨P, 4, none⟩ = some (.slice A4 m4 c4) := blk_cell hx5 4
   have y0 : W5.cell? ⟨Q, 0, none⟩ = some (.string y.f0) := blk_cell hy5 0
   have y1 : W5.cell? ⟨Q, 1, none⟩ = some (.string y.f1) := blk_cell hy5 1
   have y2 : W5.cell? ⟨Q, 2, none⟩ = some (.string y.f2) := blk_cell hy5 2
   have y3 : W5.cell? ⟨Q, 3, none⟩ = some (.slice B3 p3 d3) := blk_cell hy5 3
   have y4 : W5.cell? ⟨Q, 4, none⟩ = some (.slice B4 p4 d4) := blk_cell hy5 4
   have HCALL := Aside0.mk hcall
   have HB5 : Aside0 (Below w0.heap.size w W5) := ⟨HBR.out.trans ((hal.mono hbw.size).trans (hal5.mono hb4.size))⟩
   have HSX := Lib.hid hS
   obtain ⟨b, hbq⟩ : ∃ b, eqT x y = b := ⟨_, rfl⟩
   rw [hbq] at HCALL HSX
   clear hcall hal hal5 hx4 hx5 hy5 hm3 hm4 hp3 hp4 hxe hye hx hy hS hl3 hC3 hl4 hC4 kl3 kC3 kl4 kC4 hbw hb4 hb5 hjl hjl2 HS hxm hbq
   go_wp2_with fail
   refine HCALL.out.mono ?_
   rintro e w6 ⟨rfl, hb6⟩
   have HB6 := Aside0.mk (HB5.out.trans hb6)
   clear hb6 e0 e1 e2 e3 e4 q0 q1 q2 q3 q4 z0 z1 z2 z3 z4 y0 y1 y2 y3 y4 hW4 hW5 hP hQ HCALL HB5 HBR
   cases b with
   | true =>
    have HSN : Aside0 (eqL (ts.drop (j + 1)) (us.drop (j + 1)) = R) := ⟨by have h := HSX.out; rw [Bool.true_and] at h; exact h⟩
    clear HSX
    go_wp2_with fail
    exact ⟨⟨j + 1, by omega, by go_num, HSN, HB6⟩, by simp [intOf]; omega⟩
   | false =>
    have hr : R = false := by have h := HSX.out; rw [Bool.false_and] at h; exact h.symm
    clear HSX
    go_wp2_with fail
    go_ret
    exact ⟨by rw [hr]; rfl, HB6.out⟩
  ·
   obtain rfl : n = j := by omega
   have hr : R = true := by
    have h := HS.out
    rw [List.drop_of_length_le (by have := HN.out; omega), List.drop_of_length_le (by have := HN2.out; omega), eqL] at h
    exact h.symm
   clear HS
   go_wp2_with fail
   go_ret
   exact ⟨by rw [hr]; rfl, HBR.out⟩
set_option maxRecDepth 100000 in
set_option maxHeartbeats 4000000 in
theorem alike_is (w0 : World) (M : Nat) : ∀ (t : S25) (_ : SizeOf.sizeOf t < M) (_ : narT t = true) (u : S25) (A3 : Option Addr) (c3 : Nat) (A4 : Option Addr) (c4 : Nat) (B3 : Option Addr) (d3 : Nat) (B4 : Option Addr) (d4 : Nat) (w : World), Below w0.heap.size w0 w → Kd.C k91 w0 A3 t.f3.length t.f3 → t.f3.length ≤ c3 → Kd.C k25 w0 A4 t.f4.length t.f4 → t.f4.length ≤ c4 → Kd.C k91 w0 B3 u.f3.length u.f3 → u.f3.length ≤ d3 → Kd.C k25 w0 B4 u.f4.length u.f4 → u.f4.length ≤ d4 →
   Calls Tryz.prog 31 #[.agg #[.string t.f0, .string t.f1, .string t.f2, .slice A3 t.f3.length c3, .slice A4 t.f4.length c4], .agg #[.string u.f0, .string u.f1, .string u.f2, .slice B3 u.f3.length d3, .slice B4 u.f4.length d4]] w fun e w' => e = .returned (.bool (eqT t u)) ∧ Below w0.heap.size w w' := by
 induction M with
 | zero => intro t h; omega
 | succ M ih =>
  intro t ht hnar u A3 c3 A4 c4 B3 d3 B4 d4 w hb hr3 hc3 hr4 hc4 kr3 kc3 kr4 kc4
  obtain ⟨hn3b, hn4b, hnl⟩ := nar_parts hnar
  obtain ⟨W1, hW1⟩ : ∃ V, w.alloc (.cells #[.string t.f0, .string t.f1, .string t.f2, .slice A3 t.f3.length c3, .slice A4 t.f4.length c4] 25) = V := ⟨_, rfl⟩
  obtain ⟨P, hP⟩ : ∃ Q, w.heap.size = Q := ⟨_, rfl⟩
  have hal := below_alloc (Below.refl w.heap.size w) (.cells #[.string t.f0, .string t.f1, .string t.f2, .slice A3 t.f3.length c3, .slice A4 t.f4.length c4] 25)
  rw [hW1] at hal
  have hx1 : W1.heap[P]? = some (.cells #[.string t.f0, .string t.f1, .string t.f2, .slice A3 t.f3.length c3, .slice A4 t.f4.length c4] 25 (0, 0)) := by rw [← hW1]; exact blk_newA hP
  have hb1 := hb.trans (hal.mono hb.size)
  obtain ⟨W2, hW2⟩ : ∃ V, W1.alloc (.cells #[.string u.f0, .string u.f1, .string u.f2, .slice B3 u.f3.length d3, .slice B4 u.f4.length d4] 25) = V := ⟨_, rfl⟩
  obtain ⟨Q, hQ⟩ : ∃ Q, W1.heap.size = Q := ⟨_, rfl⟩
  have hal2 := below_alloc (Below.refl W1.heap.size W1) (.cells #[.string u.f0, .string u.f1, .string u.f2, .slice B3 u.f3.length d3, .slice B4 u.f4.length d4] 25)
  rw [hW2] at hal2
  have hx2 : W2.heap[P]? = some (.cells #[.string t.f0, .string t.f1, .string t.f2, .slice A3 t.f3.length c3, .slice A4 t.f4.length c4] 25 (0, 0)) := blk_below hx1 hal2
  have hy2 : W2.heap[Q]? = some (.cells #[.string u.f0, .string u.f1, .string u.f2, .slice B3 u.f3.length d3, .slice B4 u.f4.length d4] 25 (0, 0)) := by rw [← hW2]; exact blk_newA hQ
  have hb2 := hb1.trans (hal2.mono hb1.size)
  obtain ⟨ka, hka⟩ := eqAs_run t.f3 u.f3 hn3b
  have hA := fun (W : World) (hW : Below w0.heap.size w0 W) => api_Attr_41.calls ka A3 c3 t.f3 B3 d3 u.f3 _ W (Kd.C_below hr3 hW) hc3 (Kd.C_below kr3 hW) kc3 hka
  have hF := fun (W : World) (hW : Below w0.heap.size w0 W) => eqf_is w0 t.f4 u.f4 A4 c4 B4 d4 hr4 kr4 hn4b (fun x hx y A3 c3 A4 c4 B3 d3 B4 d4 w h1 h2 h3 h4 h5 h6 h7 h8 h9 => ih x (by have := akid_lt hx; omega) (narL_mem hnl hx) y A3 c3 A4 c4 B3 d3 B4 d4 w h1 h2 h3 h4 h5 h6 h7 h8 h9) W hW
  have HV := Lib.hid (eqT_eq t u)
  obtain ⟨V, hV⟩ : ∃ V, eqT t u = V := ⟨_, rfl⟩
  rw [hV] at HV ⊢
  obtain ⟨b3, hb3⟩ : ∃ b, eqAs t.f3 u.f3 = b := ⟨_, rfl⟩
  obtain ⟨b4, hb4⟩ : ∃ b, eqL t.f4 u.f4 = b := ⟨_, rfl⟩
  rw [hb3, hb4] at HV
  rw [hb3] at hA
  rw [hb4] at hF
  obtain ⟨n3, hn3⟩ : ∃ m, t.f3.length = m := ⟨_, rfl⟩
  obtain ⟨n4, hn4⟩ : ∃ m, t.f4.length = m := ⟨_, rfl⟩
  obtain ⟨m3, hm3⟩ : ∃ m, u.f3.length = m := ⟨_, rfl⟩
  obtain ⟨m4, hm4⟩ : ∃ m, u.f4.length = m := ⟨_, rfl⟩
  rw [hn3, hn4] at hW1
  rw [hm3, hm4] at hW2
  rw [hn3, hn4] at hx2
  rw [hm3, hm4] at hy2
  rw [hn3, hm3] at hA
  rw [hn4, hm4] at hF
  rw [hn3, hn4, hm3, hm4]
  have z0 : W2.cell? ⟨P, 0, none⟩ = some (.string t.f0) := blk_cell hx2 0
  have z1 : W2.cell? ⟨P, 1, none⟩ = some (.string t.f1) := blk_cell hx2 1
  have z2 : W2.cell? ⟨P, 2, none⟩ = some (.string t.f2) := blk_cell hx2 2
  have z3 : W2.cell? ⟨P, 3, none⟩ = some (.slice A3 n3 c3) := blk_cell hx2 3
  have y0 : W2.cell? ⟨Q, 0, none⟩ = some (.string u.f0) := blk_cell hy2 0
  have y1 : W2.cell? ⟨Q, 1, none⟩ = some (.string u.f1) := blk_cell hy2 1
  have y2 : W2.cell? ⟨Q, 2, none⟩ = some (.string u.f2) := blk_cell hy2 2
  have y3 : W2.cell? ⟨Q, 3, none⟩ = some (.slice B3 m3 d3) := blk_cell hy2 3
  have HX := Aside0.mk hx2
  have HY := Aside0.mk hy2
  have HA := Aside0.mk hA
  have HFF := Aside0.mk hF
  have HB2 := Aside0.mk hb2
  have HBW : Aside0 (Below w0.heap.size w W2) := ⟨(hal.mono hb.size).trans (hal2.mono hb1.size)⟩
  clear hal hal2 hx1 hx2 hy2 hA hF hb hb1 hb2 hr3 hc3 hr4 hc4 kr3 kc3 kr4 kc4 ih ht hnar hn3b hn4b hnl hka hV hb3 hb4 hn3 hn4 hm3 hm4
  cases h0 : (t.f0.toList == u.f0.toList)
  ·
   go_enter Tryz.func31, Tryz.ntmps31
   go_wp2_with fail
   go_ret
   exact ⟨by rw [HV.out, h0]; rfl, HBW.out⟩
  cases h1 : (t.f1.toList == u.f1.toList)
  ·
   go_enter Tryz.func31, Tryz.ntmps31
   go_wp2_with fail
   go_ret
   exact ⟨by rw [HV.out, h0, h1]; rfl, HBW.out⟩
  cases h2 : (t.f2.toList == u.f2.toList)
  ·
   go_enter Tryz.func31, Tryz.ntmps31
   go_wp2_with fail
   go_ret
   exact ⟨by rw [HV.out, h0, h1, h2]; rfl, HBW.out⟩
  go_enter Tryz.func31, Tryz.ntmps31
  go_wp2_with fail
  refine (HA.out W2 HB2.out).mono ?_
  rintro e w3 ⟨rfl, hd⟩
  have hb3 := hd.below
  have HB3 := Aside0.mk (HB2.out.trans (hb3.mono HB2.out.size))
  have HBW3 := Aside0.mk (HBW.out.trans (hb3.mono (Nat.le_trans HB2.out.size (Nat.le_refl _))))
  have q4 : w3.cell? ⟨P, 4, none⟩ = some (.slice A4 n4 c4) := blk_cell (blk_below HX.out hb3) 4
  have r4 : w3.cell? ⟨Q, 4, none⟩ = some (.slice B4 m4 d4) := blk_cell (blk_below HY.out hb3) 4
  clear hb3 hd z0 z1 z2 z3 y0 y1 y2 y3
  cases b3 with
  | false =>
   go_wp2_with fail
   go_ret
   exact ⟨by rw [HV.out, h0, h1, h2]; rfl, HBW3.out⟩
  | true =>
   go_wp2_with fail
   refine (HFF.out w3 HB3.out).mono ?_
   rintro e w4 ⟨rfl, hb4⟩
   have HBW4 := Aside0.mk (HBW3.out.trans hb4)
   clear hb4
   go_wp2_with fail
   go_ret
   exact ⟨by rw [HV.out, h0, h1, h2]; rfl, HBW4.out⟩
def tree_Alike.f (a0_0 : ByteArray) (a0_1 : ByteArray) (a0_2 : ByteArray) (l0_3 : List S91) (l0_4 : List S25) (a1_0 : ByteArray) (a1_1 : ByteArray) (a1_2 : ByteArray) (l1_3 : List S91) (l1_4 : List S25) : Option Bool :=
 if narT ⟨a0_0, a0_1, a0_2, l0_3, l0_4⟩ = true then some (eqT ⟨a0_0, a0_1, a0_2, l0_3, l0_4⟩ ⟨a1_0, a1_1, a1_2, l1_3, l1_4⟩) else none
theorem tree_Alike.calls (a0_0 : ByteArray) (a0_1 : ByteArray) (a0_2 : ByteArray) (A0_3 : Option Addr) (c0_3 : Nat) (l0_3 : List S91) (A0_4 : Option Addr) (c0_4 : Nat) (l0_4 : List S25) (a1_0 : ByteArray) (a1_1 : ByteArray) (a1_2 : ByteArray) (A1_3 : Option Addr) (c1_3 : Nat) (l1_3 : List S91) (A1_4 : Option Addr) (c1_4 : Nat) (l1_4 : List S25) (r : Bool) (w : World)
  (hr0_3 : Kd.C k91 w A0_3 l0_3.length l0_3) (hc0_3 : l0_3.length ≤ c0_3) (hr0_4 : Kd.C k25 w A0_4 l0_4.length l0_4) (hc0_4 : l0_4.length ≤ c0_4) (hr1_3 : Kd.C k91 w A1_3 l1_3.length l1_3) (hc1_3 : l1_3.length ≤ c1_3) (hr1_4 : Kd.C k25 w A1_4 l1_4.length l1_4) (hc1_4 : l1_4.length ≤ c1_4) (h : tree_Alike.f a0_0 a0_1 a0_2 l0_3 l0_4 a1_0 a1_1 a1_2 l1_3 l1_4 = some r) :
  Calls Tryz.prog 31 #[.agg #[.string a0_0, .string a0_1, .string a0_2, .slice A0_3 l0_3.length c0_3, .slice A0_4 l0_4.length c0_4], .agg #[.string a1_0, .string a1_1, .string a1_2, .slice A1_3 l1_3.length c1_3, .slice A1_4 l1_4.length c1_4]] w fun e w' => e = .returned (.bool r) ∧ Below w.heap.size w w' := by
 unfold tree_Alike.f at h
 by_cases hk : narT ⟨a0_0, a0_1, a0_2, l0_3, l0_4⟩ = true
 case neg => rw [if_neg hk] at h; cases h
 rw [if_pos hk] at h
 obtain rfl := Option.some.inj h
 exact alike_is w _ ⟨a0_0, a0_1, a0_2, l0_3, l0_4⟩ (Nat.lt_succ_self _) hk ⟨a1_0, a1_1, a1_2, l1_3, l1_4⟩ A0_3 c0_3 A0_4 c0_4 A1_3 c1_3 A1_4 c1_4 w (Below.refl _ _) hr0_3 hc0_3 hr0_4 hc0_4 hr1_3 hc1_3 hr1_4 hc1_4
end Go.Proofs.YtloocmeckpoflaaGreat.D
