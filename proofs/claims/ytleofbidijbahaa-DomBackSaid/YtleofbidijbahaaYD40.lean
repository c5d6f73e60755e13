import Derived.Test.YtleofbidijbahaaYD0
import Derived.Test.YtleofbidijbahaaYD37
import Derived.Test.YtleofbidijbahaaYD39
namespace Go.Proofs.Ytleofbidijbahaa.D
open Go.RowKit Go.Proofs.YtleofbidijbahaaW.PrintWords Go.Proofs.YtleofbidijbahaaW.PrintLast Go.Proofs.YtleofbidijbahaaW.PrintMore
attribute [local go_sem] max2_int min2_int max_two min_two max_three min_three max_four min_four   -- for this text's walks alone
set_option linter.unusedVariables false
set_option linter.unusedSimpArgs false
def placeR (id : Int) : List S64 → Int → Int
 | [], _ => -1
 | z :: zs, i => if z.f0 = id then i else placeR id zs (i + 1)
theorem rdR_at {l pre rest : List S64} {x : S64} (h : l = pre ++ x :: rest) : rd_T64 l (pre.length : Int) = x := by
 unfold rd_T64
 rw [Int.toNat_natCast, h, List.getD_eq_getElem?_getD, List.getElem?_append_right (Nat.le_refl _), Nat.sub_self]
 rfl
theorem rdR_lt {l : List S64} {i : Nat} (h : i < l.length) : rd_T64 l (i : Int) = l[i] := by
 unfold rd_T64
 rw [Int.toNat_natCast, List.getD_eq_getElem?_getD, List.getElem?_eq_getElem h, Option.getD_some]
theorem placeR_l0 (l : List S64) (r nx id : Int) (hn : l.length ≤ 9223372036854775807) : ∀ (rest pre : List S64), l = pre ++ rest → Ev (fun k => fanlightref10_Place.l0 k id (pre.length : Int) l r nx) (placeR id rest (pre.length : Int))
 | [], pre, h => by
  refine Ev.step (fun k => rfl) ?_
  have e : l = pre := by simpa using h
  simp only [fanlightref10_Place.l0, if_neg (show ¬ (pre.length : Int) < (l.length : Int) by rw [e]; omega)]
  exact Ev.now _
 | x :: xs, pre, h => by
  refine Ev.step (fun k => rfl) ?_
  have hlen : l.length = pre.length + 1 + xs.length := by rw [h]; simp; omega
  have w2 : wrap64 ((pre.length : Int) + 1) = (((pre ++ [x]).length : Nat) : Int) := by rw [List.length_append]; unfold wrap64; simp only [List.length_singleton]; omega
  by_cases hx : x.f0 = id
  ·
   simp only [fanlightref10_Place.l0, if_pos (show (pre.length : Int) < (l.length : Int) by omega), if_pos (show (0 : Int) ≤ (pre.length : Int) by omega), rdR_at h, if_pos hx, placeR]
   exact Ev.now _
  ·
   simp only [fanlightref10_Place.l0, if_pos (show (pre.length : Int) < (l.length : Int) by omega), if_pos (show (0 : Int) ≤ (pre.length : Int) by omega), rdR_at h, if_neg hx, placeR, w2]
   have := placeR_l0 l r nx id hn xs (pre ++ [x]) (by rw [h]; simp)
   rw [show (((pre ++ [x]).length : Nat) : Int) = (pre.length : Int) + 1 by rw [List.length_append]; rfl] at this ⊢
   exact this
theorem placeR_from (id : Int) : ∀ (l : List S64) (i : Int), (placeR id l i = -1 ∧ ∀ z ∈ l, z.f0 ≠ id) ∨ ∃ t : Nat, ∃ h : t < l.length, placeR id l i = i + t ∧ l[t].f0 = id
 | [], i => .inl ⟨rfl, fun z hz => by cases hz⟩
 | z :: zs, i => by
  unfold placeR
  by_cases hz : z.f0 = id
  ·
   rw [if_pos hz]
   exact .inr ⟨0, by simp, by simp, hz⟩
  ·
   rw [if_neg hz]
   rcases placeR_from id zs (i + 1) with ⟨h1, h2⟩ | ⟨t, ht, h1, h2⟩
   ·
    exact .inl ⟨h1, fun y hy => by rcases List.mem_cons.1 hy with rfl | hy; exact hz; exact h2 y hy⟩
   ·
    exact .inr ⟨t + 1, by simpa using ht, by rw [h1]; omega, h2⟩
theorem placeR_cases (id : Int) (l : List S64) : (placeR id l 0 = -1 ∧ ∀ z ∈ l, z.f0 ≠ id) ∨ ∃ t : Nat, t < l.length ∧ placeR id l 0 = t ∧ (rd_T64 l (t : Int)).f0 = id ∧ rd_T64 l (t : Int) ∈ l := by
 rcases placeR_from id l 0 with h | ⟨t, ht, h1, h2⟩
 ·
  exact .inl h
 ·
  refine .inr ⟨t, ht, by rw [h1]; omega, ?_⟩
  rw [rdR_lt ht]
  exact ⟨h2, List.getElem_mem _⟩
theorem place_call (B : Option Addr) (d m : Nat) (ms : List S64) (r nx id : Int) (w : World) (hD : Kd.C k64 w B m ms) (hm : ms.length = m) (hc : m ≤ d) :
  Calls Try.prog 25 #[.agg #[.slice B m d, .int .i64 r, .int .i64 nx], .int .i64 id] w fun e w' => e = .returned (.int .i64 (placeR id ms 0)) ∧ Below w.heap.size w w' := by
 subst hm
 obtain ⟨k, hk⟩ := (placeR_l0 ms r nx id hD.2.1 ms [] rfl).rounds
 exact fanlightref10_Place.calls k B d ms r nx id _ w hD hc hk
def inR (a : Int) : List Int → Int → Int
 | [], _ => -1
 | z :: zs, i => if z = a then i else inR a zs (i + 1)
theorem inR_l0 (l : List Int) (a : Int) (hn : l.length ≤ 9223372036854775807) : ∀ (rest pre : List Int), l = pre ++ rest → Ev (fun k => fanlightref10_in.l0 k l a (pre.length : Int)) (inR a rest (pre.length : Int))
 | [], pre, h => by
  refine Ev.step (fun k => rfl) ?_
  have e : l = pre := by simpa using h
  simp only [fanlightref10_in.l0, if_neg (show ¬ (pre.length : Int) < (l.length : Int) by rw [e]; omega)]
  exact Ev.now _
 | x :: xs, pre, h => by
  refine Ev.step (fun k => rfl) ?_
  have hlen : l.length = pre.length + 1 + xs.length := by rw [h]; simp; omega
  have hrd : rd l (pre.length : Int) = x := by
   unfold rd
   rw [Int.toNat_natCast, h, List.getD_eq_getElem?_getD, List.getElem?_append_right (Nat.le_refl _), Nat.sub_self]
   rfl
  have w2 : wrap64 ((pre.length : Int) + 1) = (((pre ++ [x]).length : Nat) : Int) := by rw [List.length_append]; unfold wrap64; simp only [List.length_singleton]; omega
  by_cases hx : x = a
  ·
   simp only [fanlightref10_in.l0, if_pos (show (pre.length : Int) < (l.length : Int) by omega), if_pos (show (0 : Int) ≤ (pre.length : Int) by omega), hrd, if_pos hx, inR]
   exact Ev.now _
  ·
   simp only [fanlightref10_in.l0, if_pos (show (pre.length : Int) < (l.length : Int) by omega), if_pos (show (0 : Int) ≤ (pre.length : Int) by omega), hrd, if_neg hx, inR, w2]
   have := inR_l0 l a hn xs (pre ++ [x]) (by rw [h]; simp)
   rw [show (((pre ++ [x]).length : Nat) : Int) = (pre.length : Int) + 1 by rw [List.length_append]; rfl] at this ⊢
   exact this
theorem inR_iff (a : Int) : ∀ (l : List Int) (i : Int), 0 ≤ i → (0 ≤ inR a l i ↔ a ∈ l)
 | [], i, h => by simp [inR]
 | z :: zs, i, h => by
  unfold inR
  by_cases hz : z = a
  ·
   rw [if_pos hz]; simp [hz, h]
  ·
   rw [if_neg hz, inR_iff a zs (i + 1) (by omega), List.mem_cons]
   constructor
   ·
    exact fun h => .inr h
   ·
    rintro (h | h)
    ·
     exact absurd h.symm hz
    ·
     exact h
theorem in_call (A : Option Addr) (c n : Nat) (l : List Int) (a : Int) (w : World) (hC : Kd.C (Kd.int .i64) w A n l) (hn : l.length = n) (hc : n ≤ c) :
  Calls Try.prog 52 #[.slice A n c, .int .i64 a] w fun e w' => e = .returned (.int .i64 (inR a l 0)) ∧ Drawn0 w w' := by
 subst hn
 obtain ⟨k, hk⟩ := (inR_l0 l a hC.2.1 l [] rfl).rounds
 exact fanlightref10_in.calls k A c l a _ w hC hc hk
def kidsRL (ms : List S64) (id : Int) : List Int → List Int → Bool
 | _, [] => true
 | done, k :: ks => if placeR k ms 0 < 0 then false else if (rd_T64 ms (placeR k ms 0)).f1 = id then (if inR k done 0 < 0 then kidsRL ms id (done ++ [k]) ks else false) else false
def kidsR (ms : List S64) (y : S64) : Bool := if 32 < y.f6.length then false else if y.f2.toList.isEmpty = true ∧ 0 < y.f6.length then false else kidsRL ms y.f0 [] y.f6
def bsR (n k : Nat) : Array Bool := ⟨List.replicate k true ++ List.replicate (n - k) false⟩
abbrev RBox (W : World) (b : Nat) (x : S64) (B5 : Option Addr) (d5 n5 : Nat) (B6 : Option Addr) (d6 n6 : Nat) : Prop := W.heap[b]? = some (.cells #[.int .i64 x.f0, .int .i64 x.f1, .string x.f2, .string x.f3, .string x.f4, .slice B5 n5 d5, .slice B6 n6 d6] 64 (0, 0))
set_option maxRecDepth 100000 in
set_option maxHeartbeats 8000000 in
theorem kidsR_is (B : Option Addr) (d m : Nat) (ms : List S64) (r nx : Int) (y : S64) (A5 : Option Addr) (e5 n5 : Nat) (A6 : Option Addr) (e6 n6 : Nat) (w : World) (hD : Kd.C k64 w B m ms) (hm : ms.length = m) (hc : m ≤ d) (hC6 : Kd.C (Kd.int .i64) w A6 n6 y.f6) (h6 : y.f6.length = n6) (hc6 : n6 ≤ e6) :
  Calls Try.prog 51 #[.agg #[.slice B m d, .int .i64 r, .int .i64 nx], .agg #[.int .i64 y.f0, .int .i64 y.f1, .string y.f2, .string y.f3, .string y.f4, .slice A5 n5 e5, .slice A6 n6 e6]] w fun e w' => e = .returned (.bool (kidsR ms y)) ∧ Below w.heap.size w w' := by
 have HD := Aside0.mk hD
 have HC6 := Aside0.mk hC6
 have HM := Lib.hid hm
 have H6 := Lib.hid h6
 have HPL := Aside0.mk (fun (id : Int) (W : World) (hW : Below w.heap.size w W) => place_call B d m ms r nx id W (Kd.C_below hD hW) hm hc)
 have HIN := Aside0.mk (fun (j : Nat) (hj : j ≤ n6) (a : Int) (W : World) (hW : Below w.heap.size w W) => in_call A6 e6 j (y.f6.take j) a W (by
  have := Kd.C_take (k := Kd.int .i64) (m := j) (h6 ▸ Kd.C_below hC6 hW) (by omega)
  rw [List.length_take, Nat.min_eq_left (by omega)] at this
  exact this) (by rw [List.length_take, Nat.min_eq_left (by omega)]) (by omega))
 have hc6' := hc6
 obtain ⟨R, hR⟩ : ∃ R, kidsR ms y = R := ⟨_, rfl⟩
 rw [hR]
 unfold kidsR at hR
 rw [h6] at hR
 have HR := Lib.hid hR
 obtain ⟨N, hNN⟩ : ∃ N, w.heap.size = N := ⟨_, rfl⟩
 obtain ⟨W1, hW1⟩ : ∃ W, w.alloc (.cells #[.slice B m d, .int .i64 r, .int .i64 nx] 24) = W := ⟨_, rfl⟩
 have hb1 : Below N w W1 := by rw [← hW1, ← hNN]; exact (Below.refl _ _).alloc (Nat.le_refl _) _
 have hx1 : W1.heap[N]? = some (.cells #[.slice B m d, .int .i64 r, .int .i64 nx] 24 (0, 0)) := by rw [← hW1, ← hNN]; exact World.alloc_heap_new w _
 have hs1 : W1.heap.size = N + 1 := by rw [← hW1, ← hNN]; simp
 obtain ⟨W2, hW2⟩ : ∃ W, W1.alloc (.cells #[.int .i64 y.f0, .int .i64 y.f1, .string y.f2, .string y.f3, .string y.f4, .slice A5 n5 e5, .slice A6 n6 e6] 64) = W := ⟨_, rfl⟩
 have hb2 : Below W1.heap.size W1 W2 := by rw [← hW2]; exact (Below.refl _ _).alloc (Nat.le_refl _) _
 have hx2 : RBox W2 (N + 1) y A5 e5 n5 A6 e6 n6 := by rw [← hW2, ← hs1]; exact World.alloc_heap_new W1 _
 have hx1' := (hb2.block _ (blk_lt hx1)).trans hx1
 have hb12 : Below N w W2 := hb1.trans (hb2.mono (by omega))
 have z2 : W2.cell? ⟨N + 1, 2, none⟩ = some (.string y.f2) := blk_cell hx2 2
 have z6 : W2.cell? ⟨N + 1, 6, none⟩ = some (.slice A6 n6 e6) := blk_cell hx2 6
 have HX1 := Aside0.mk hx1'
 have HX2 : Aside0 (RBox W2 (N + 1) y A5 e5 n5 A6 e6 n6) := ⟨hx2⟩
 have HB := Aside0.mk hb12
 have HNN := Lib.hid hNN
 have hnn : n6 ≤ 9223372036854775807 := hC6.2.1
 clear hD hC6 hm h6 hc hc6 hR hb1 hx1 hb2 hx2 hx1' hb12
 by_cases c1 : 32 < n6
 ·
  have d1 : decide ((n6 : Int) > 32) = true := decide_eq_true (by omega)
  have HV : Aside0 (R = false) := ⟨by rw [← HR.out, if_pos c1]⟩
  clear c1
  go_enter Try.func51, Try.ntmps51
  go_wp2_with fail
  go_ret
  exact ⟨by rw [HV.out]; rfl, by rw [HNN.out]; exact HB.out⟩
 have d1 : decide ((n6 : Int) > 32) = false := decide_eq_false (by omega)
 have C1 := Lib.hid c1
 by_cases c2 : y.f2.toList.isEmpty = true ∧ 0 < n6
 ·
  have d2 : (y.f2.toList == ([] : List UInt8)) = true := by rw [List.isEmpty_iff.1 c2.1]; rfl
  have d2' : y.f2.toList = [] := List.isEmpty_iff.1 c2.1
  have d3 : decide ((n6 : Int) > 0) = true := decide_eq_true (by omega)
  have d3n : decide (0 < n6) = true := decide_eq_true c2.2
  have HV : Aside0 (R = false) := ⟨by rw [← HR.out, if_neg c1, if_pos c2]⟩
  clear c1 c2
  go_enter Try.func51, Try.ntmps51
  go_wp2_with fail
  go_ret
  exact ⟨by rw [HV.out]; rfl, by rw [HNN.out]; exact HB.out⟩
 have HR1 : Aside0 (R = kidsRL ms y.f0 (y.f6.take 0) (y.f6.drop 0)) := ⟨by rw [← HR.out, if_neg c1, if_neg c2]; rfl⟩
 suffices hloop : ∀ (W0 : Unit), (∃ b : Bool, (y.f2.toList == ([] : List UInt8)) = b ∧ (b = true → n6 = 0)) → Calls Try.prog 51 #[.agg #[.slice B m d, .int .i64 r, .int .i64 nx], .agg #[.int .i64 y.f0, .int .i64 y.f1, .string y.f2, .string y.f3, .string y.f4, .slice A5 n5 e5, .slice A6 n6 e6]] w fun e w' => e = .returned (.bool R) ∧ Below w.heap.size w w' by
  refine hloop () ⟨_, rfl, fun h => ?_⟩
  rcases Nat.eq_zero_or_pos n6 with h0 | h0
  ·
   exact h0
  ·
   exact absurd ⟨by rw [eq_of_beq h]; rfl, h0⟩ c2
 rintro _ ⟨bt, hbt, hb0⟩
 clear c1 c2 HR
 cases bt with
 | true =>
  have h0 : n6 = 0 := hb0 rfl
  have d2' : y.f2.toList = [] := eq_of_beq hbt
  have d3 : decide ((n6 : Int) > 0) = false := decide_eq_false (by omega)
  have d3n : decide (0 < n6) = false := decide_eq_false (by omega)
  have d4 : decide ((0 : Int) < (n6 : Int)) = false := decide_eq_false (by omega)
  have HV : Aside0 (R = true) := ⟨by rw [HR1.out, List.drop_zero, List.eq_nil_of_length_eq_zero (H6.out.trans h0)]; rfl⟩
  clear h0 hb0
  go_enter Try.func51, Try.ntmps51
  go_wp2_with fail
  go_loopw [5, 6] (fun i _ wr => i = .int .i64 0 ∧ Aside0 (Below N w wr) ∧ Aside0 (RBox wr (N + 1) y A5 e5 n5 A6 e6 n6)) (fun _ _ _ => 0)
  case atStart => exact ⟨rfl, HB, HX2⟩
  case round =>
   obtain ⟨rfl, HBR, HYR⟩ := hrel
   have q6 : wr.cell? ⟨N + 1, 6, none⟩ = some (.slice A6 n6 e6) := blk_cell HYR.out 6
   go_wp2_with fail
   go_ret
   exact ⟨by rw [HV.out]; rfl, by rw [HNN.out]; exact HBR.out⟩
 | false =>
  have d2' : ¬ y.f2.toList = [] := fun h => by rw [h] at hbt; cases hbt
  clear hb0
  go_enter Try.func51, Try.ntmps51
  go_wp2_with fail
  go_loopw [5, 6] (fun i _ wr => ∃ j : Nat, j ≤ n6 ∧ i = .int .i64 j ∧ Aside0 (R = kidsRL ms y.f0 (y.f6.take j) (y.f6.drop j)) ∧ Aside0 (Below N w wr) ∧ Aside0 (wr.heap[N]? = some (.cells #[.slice B m d, .int .i64 r, .int .i64 nx] 24 (0, 0))) ∧ Aside0 (RBox wr (N + 1) y A5 e5 n5 A6 e6 n6)) (fun i _ _ => n6 - (intOf i).toNat)
  case atStart => exact ⟨0, Nat.zero_le _, rfl, HR1, HB, HX1, HX2⟩
  case round =>
   obtain ⟨j, hj, rfl, HZ, HBR, HXR, HYR⟩ := hrel
   by_cases hlt : j < n6
   ·
    have hkl : j < y.f6.length := by have := H6.out; omega
    have q0 : wr.cell? ⟨N, 0, none⟩ = some (.slice B m d) := blk_cell HXR.out 0
    have q1 : wr.cell? ⟨N, 1, none⟩ = some (.int .i64 r) := blk_cell HXR.out 1
    have q2 : wr.cell? ⟨N, 2, none⟩ = some (.int .i64 nx) := blk_cell HXR.out 2
    have u0 : wr.cell? ⟨N + 1, 0, none⟩ = some (.int .i64 y.f0) := blk_cell HYR.out 0
    have u6 : wr.cell? ⟨N + 1, 6, none⟩ = some (.slice A6 n6 e6) := blk_cell HYR.out 6
    obtain ⟨aq, rfl, hcell⟩ := Kd.at_int (Kd.C_below HC6.out (HNN.out ▸ HBR.out)) (j : Int) (by omega) (by omega)
    have hx : rd y.f6 (j : Int) = y.f6[j] := by unfold rd; rw [Int.toNat_natCast, List.getD_eq_getElem?_getD, List.getElem?_eq_getElem hkl, Option.getD_some]
    rw [hx, Int.toNat_natCast] at hcell
    have hz := HZ.out
    rw [List.drop_eq_getElem_cons hkl, kidsRL] at hz
    have htk : y.f6.take (j + 1) = y.f6.take j ++ [y.f6[j]] := List.take_succ_eq_append_getElem hkl
    obtain ⟨x, hxe⟩ : ∃ x, y.f6[j] = x := ⟨_, rfl⟩
    rw [hxe] at hcell hz htk
    rw [← htk] at hz
    have HZ2 := Aside0.mk hz
    have HNW : Aside0 (N ≤ wr.heap.size) := ⟨by have := HBR.out.size; have := HNN.out; omega⟩
    have HP0 := Aside0.mk (HPL.out x)
    have HI0 := Aside0.mk (HIN.out j (by omega) x)
    have hpc := placeR_cases x ms
    obtain ⟨P, hP⟩ : ∃ P, placeR x ms 0 = P := ⟨_, rfl⟩
    obtain ⟨I, hI⟩ : ∃ I, inR x (y.f6.take j) 0 = I := ⟨_, rfl⟩
    rw [hP] at HP0 HZ2 hpc
    rw [hI] at HI0 HZ2
    have HPC := Aside0.mk hpc
    have d9 : decide ((j : Int) < (n6 : Int)) = true := decide_eq_true (by omega)
    have hj63 : (j : Int) + 1 ≤ 9223372036854775807 := by omega
    clear hx hxe hz htk hP hI hpc hkl HZ
    go_upto_region 6 with (fail)
    go_cut [6] (fun s6 wx => s6 = .int .i64 P ∧ Aside0 (Below wr.heap.size wr wx))
    case first =>
     go_region_held3 (fun w' => w'.cell? ⟨N, 0, none⟩ = some (.slice B m d) ∧ w'.cell? ⟨N, 1, none⟩ = some (.int .i64 r) ∧ w'.cell? ⟨N, 2, none⟩ = some (.int .i64 nx) ∧ w'.cell? ⟨N + 1, 6, none⟩ = some (.slice (some aq) n6 e6) ∧ w'.cell? (aq.add j) = some (.int .i64 x)) (first | (with_reducible exact ⟨pw_cell_below HB7.out q0, pw_cell_below HB7.out q1, pw_cell_below HB7.out q2, pw_cell_below HB7.out u6, pw_cell_below HB7.out hcell⟩) | go_keep) (first | (go_at_call 25; (with_reducible refine (HP0.out _ (HNN.out ▸ HBR.out.trans ((below_drew1 (Below.refl wr.heap.size wr)).mono HNW.out))).mono ?_); rintro e w7 ⟨rfl, hb7⟩; have HB7 : Aside0 (Below wr.heap.size wr w7) := ⟨(below_drew1 (Below.refl _ _)).trans hb7⟩; clear hb7))
     all_goals go_wp2_with fail
     all_goals go_meet
     all_goals exact ⟨rfl, HB7⟩
    case rest =>
     obtain ⟨rfl, HBC0⟩ := hcut
     have HBC : Aside0 (Below N w wc) := ⟨HBR.out.trans (HBC0.out.mono HNW.out)⟩
     have HNC : Aside0 (N ≤ wc.heap.size) := ⟨Nat.le_trans HNW.out HBC0.out.size⟩
     have HXC := Aside0.mk ((HBC0.out.block _ (blk_lt HXR.out)).trans HXR.out)
     have HYC : Aside0 (RBox wc (N + 1) y A5 e5 n5 (some aq) e6 n6) := ⟨(HBC0.out.block _ (blk_lt HYR.out)).trans HYR.out⟩
     have p0 : wc.cell? ⟨N, 0, none⟩ = some (.slice B m d) := blk_cell HXC.out 0
     have v0 : wc.cell? ⟨N + 1, 0, none⟩ = some (.int .i64 y.f0) := blk_cell HYC.out 0
     have v6 : wc.cell? ⟨N + 1, 6, none⟩ = some (.slice (some aq) n6 e6) := blk_cell HYC.out 6
     have vc := pw_cell_below HBC0.out hcell
     have HBD : Aside0 (Below N w wc.drew) := ⟨HBC.out.trans ((below_drew1 (Below.refl _ _)).mono HNC.out)⟩
     clear q0 q1 q2 u0 u6 hcell
     rcases HPC.out with ⟨hp, -⟩ | ⟨t, ht, hp, -, -⟩
     ·
      subst hp
      have HV : Aside0 (R = false) := ⟨by rw [HZ2.out, if_pos (by decide)]⟩
      have HBE := HBD
      go_wp2_with fail
      refine start_ (n := 26) (S := fun w' => True) (ds := []) (bsR 26 0) (by kernel_rfl) rfl (by kernel_rfl) trivial (fun hHeld => ?_)
      (refine pure_ (i := 0) (v := ?_) (a' := ?_) (bsR 26 1) rfl rfl (by kernel_rfl) (fun _ _ _ h => h) (Or.inl ⟨by rfl, ?_⟩) ?_ ?_; rotate_left; (intro w'; go_simp; with_reducible rfl); rotate_left; (go_simp; rfl))
      (refine pure_ (i := 1) (v := ?_) (a' := ?_) (bsR 26 2) rfl rfl (by kernel_rfl) (fun _ _ _ h => h) (Or.inl ⟨by rfl, ?_⟩) ?_ ?_; rotate_left; (intro w'; go_simp; with_reducible rfl); rotate_left; (go_simp; rfl))
      (refine pure_ (i := 2) (v := ?_) (a' := ?_) (bsR 26 3) rfl rfl (by kernel_rfl) (fun _ _ _ h => h) (Or.inl ⟨by rfl, ?_⟩) ?_ ?_; rotate_left; (intro w'; go_simp; with_reducible rfl); rotate_left; (go_simp; rfl))
      (refine pure_ (i := 3) (v := undef) (a' := ?_) (bsR 26 4) rfl rfl (by kernel_rfl) (fun _ _ _ h => h) (Or.inr ⟨by rfl, rfl⟩) ?_ ?_; rotate_left; (go_simp; rfl))
      (refine pure_ (i := 4) (v := undef) (a' := ?_) (bsR 26 5) rfl rfl (by kernel_rfl) (fun _ _ _ h => h) (Or.inr ⟨by rfl, rfl⟩) ?_ ?_; rotate_left; (go_simp; rfl))
      (refine pure_ (i := 5) (v := undef) (a' := ?_) (bsR 26 6) rfl rfl (by kernel_rfl) (fun _ _ _ h => h) (Or.inr ⟨by rfl, rfl⟩) ?_ ?_; rotate_left; (go_simp; rfl))
      (refine pure_ (i := 6) (v := undef) (a' := ?_) (bsR 26 7) rfl rfl (by kernel_rfl) (fun _ _ _ h => h) (Or.inr ⟨by rfl, rfl⟩) ?_ ?_; rotate_left; (go_simp; rfl))
      (refine pure_ (i := 7) (v := undef) (a' := ?_) (bsR 26 8) rfl rfl (by kernel_rfl) (fun _ _ _ h => h) (Or.inr ⟨by rfl, rfl⟩) ?_ ?_; rotate_left; (go_simp; rfl))
      (refine pure_ (i := 8) (v := undef) (a' := ?_) (bsR 26 9) rfl rfl (by kernel_rfl) (fun _ _ _ h => h) (Or.inr ⟨by rfl, rfl⟩) ?_ ?_; rotate_left; (go_simp; rfl))
      (refine pure_ (i := 9) (v := undef) (a' := ?_) (bsR 26 10) rfl rfl (by kernel_rfl) (fun _ _ _ h => h) (Or.inr ⟨by rfl, rfl⟩) ?_ ?_; rotate_left; (go_simp; rfl))
      (refine pure_ (i := 10) (v := undef) (a' := ?_) (bsR 26 11) rfl rfl (by kernel_rfl) (fun _ _ _ h => h) (Or.inr ⟨by rfl, rfl⟩) ?_ ?_; rotate_left; (go_simp; rfl))
      (refine pure_ (i := 11) (v := undef) (a' := ?_) (bsR 26 12) rfl rfl (by kernel_rfl) (fun _ _ _ h => h) (Or.inr ⟨by rfl, rfl⟩) ?_ ?_; rotate_left; (go_simp; rfl))
      (refine pure_ (i := 12) (v := ?_) (a' := ?_) (bsR 26 13) rfl rfl (by kernel_rfl) (fun _ _ _ h => h) (Or.inl ⟨by rfl, ?_⟩) ?_ ?_; rotate_left; (intro w'; go_simp; with_reducible rfl); rotate_left; (go_simp; rfl))
      (refine pure_ (i := 13) (v := ?_) (a' := ?_) (bsR 26 14) rfl rfl (by kernel_rfl) (fun _ _ _ h => h) (Or.inl ⟨by rfl, ?_⟩) ?_ ?_; rotate_left; (intro w'; go_simp; with_reducible rfl); rotate_left; (go_simp; rfl))
      (refine pure_ (i := 14) (v := undef) (a' := ?_) (bsR 26 15) rfl rfl (by kernel_rfl) (fun _ _ _ h => h) (Or.inr ⟨by rfl, rfl⟩) ?_ ?_; rotate_left; (go_simp; rfl))
      (refine pure_ (i := 15) (v := undef) (a' := ?_) (bsR 26 16) rfl rfl (by kernel_rfl) (fun _ _ _ h => h) (Or.inr ⟨by rfl, rfl⟩) ?_ ?_; rotate_left; (go_simp; rfl))
      (refine pure_ (i := 16) (v := undef) (a' := ?_) (bsR 26 17) rfl rfl (by kernel_rfl) (fun _ _ _ h => h) (Or.inr ⟨by rfl, rfl⟩) ?_ ?_; rotate_left; (go_simp; rfl))
      (refine pure_ (i := 17) (v := undef) (a' := ?_) (bsR 26 18) rfl rfl (by kernel_rfl) (fun _ _ _ h => h) (Or.inr ⟨by rfl, rfl⟩) ?_ ?_; rotate_left; (go_simp; rfl))
      (refine pure_ (i := 18) (v := undef) (a' := ?_) (bsR 26 19) rfl rfl (by kernel_rfl) (fun _ _ _ h => h) (Or.inr ⟨by rfl, rfl⟩) ?_ ?_; rotate_left; (go_simp; rfl))
      (refine pure_ (i := 19) (v := undef) (a' := ?_) (bsR 26 20) rfl rfl (by kernel_rfl) (fun _ _ _ h => h) (Or.inr ⟨by rfl, rfl⟩) ?_ ?_; rotate_left; (go_simp; rfl))
      (refine pure_ (i := 20) (v := undef) (a' := ?_) (bsR 26 21) rfl rfl (by kernel_rfl) (fun _ _ _ h => h) (Or.inr ⟨by rfl, rfl⟩) ?_ ?_; rotate_left; (go_simp; rfl))
      (refine pure_ (i := 21) (v := undef) (a' := ?_) (bsR 26 22) rfl rfl (by kernel_rfl) (fun _ _ _ h => h) (Or.inr ⟨by rfl, rfl⟩) ?_ ?_; rotate_left; (go_simp; rfl))
      (refine pure_ (i := 22) (v := undef) (a' := ?_) (bsR 26 23) rfl rfl (by kernel_rfl) (fun _ _ _ h => h) (Or.inr ⟨by rfl, rfl⟩) ?_ ?_; rotate_left; (go_simp; rfl))
      (refine pure_ (i := 23) (v := undef) (a' := ?_) (bsR 26 24) rfl rfl (by kernel_rfl) (fun _ _ _ h => h) (Or.inr ⟨by rfl, rfl⟩) ?_ ?_; rotate_left; (go_simp; rfl))
      (refine pure_ (i := 24) (v := undef) (a' := ?_) (bsR 26 25) rfl rfl (by kernel_rfl) (fun _ _ _ h => h) (Or.inr ⟨by rfl, rfl⟩) ?_ ?_; rotate_left; (go_simp; rfl))
      (refine pure_ (i := 25) (v := ?_) (a' := ?_) (bsR 26 26) rfl rfl (by kernel_rfl) (fun _ _ _ h => h) (Or.inl ⟨by rfl, ?_⟩) ?_ ?_; rotate_left; (intro w'; go_simp; with_reducible rfl); rotate_left; (go_simp; rfl))
      refine done_ (by kernel_rfl) ?_
      go_wp2_with fail
      (try go_ret)
      exact ⟨by rw [HV.out]; rfl, by rw [HNN.out]; exact HBE.out⟩
     ·
      subst hp
      have htm : (t : Int) < (m : Int) := by have := HM.out; omega
      obtain ⟨bd, B5, g5, B6, g6, rfl, -, hy1, -, -, -, -, -, -, -, -, -⟩ := at_T64 (Kd.C_below HD.out (HNN.out ▸ HBC.out)) (t : Int) (by omega) htm
      rw [Int.toNat_natCast] at hy1
      obtain ⟨pf, hpf⟩ : ∃ z, (rd_T64 ms (t : Int)).f1 = z := ⟨_, rfl⟩
      have hz := HZ2.out
      rw [if_neg (by omega), hpf] at hz
      rw [hpf] at hy1
      have dP : decide ((t : Int) < 0) = false := decide_eq_false (by omega)
      by_cases he : pf = y.f0
      rotate_left
      ·
       have HV : Aside0 (R = false) := ⟨by rw [hz, if_neg he]⟩
       have de : (pf != y.f0) = true := bne_iff_ne.2 he
       have HBE := HBD
       clear hz hpf he
       go_wp2_with fail
       refine start_ (n := 26) (S := fun w' => w'.cell? ⟨N, 0, none⟩ = some (.slice (some bd) m d) ∧ w'.cell? ⟨N + 1, 0, none⟩ = some (.int .i64 y.f0) ∧ w'.cell? ⟨N + 1, 6, none⟩ = some (.slice (some aq) n6 e6) ∧ w'.cell? (aq.add j) = some (.int .i64 x) ∧ w'.cell? ⟨(bd.add (t * 7)).block, (bd.add (t * 7)).off + 1, none⟩ = some (.int .i64 pf)) (ds := []) (bsR 26 0) (by kernel_rfl) rfl (by kernel_rfl) ⟨p0, v0, v6, vc, hy1⟩ (fun hHeld => ?_)
       (refine pure_ (i := 0) (v := ?_) (a' := ?_) (bsR 26 1) rfl rfl (by kernel_rfl) (fun _ _ _ h => h) (Or.inl ⟨by rfl, ?_⟩) ?_ ?_; rotate_left; (intro w'; go_simp; with_reducible rfl); rotate_left; (go_simp; rfl))
       (refine pure_ (i := 1) (v := ?_) (a' := ?_) (bsR 26 2) rfl rfl (by kernel_rfl) (fun _ _ _ h => h) (Or.inl ⟨by rfl, ?_⟩) ?_ ?_; rotate_left; (intro w'; go_simp; with_reducible rfl); rotate_left; (go_simp; rfl))
       (refine pure_ (i := 2) (v := ?_) (a' := ?_) (bsR 26 3) rfl rfl (by kernel_rfl) (fun _ _ _ h => h) (Or.inl ⟨by rfl, ?_⟩) ?_ ?_; rotate_left; (intro w'; go_simp; with_reducible rfl); rotate_left; (go_simp; rfl))
       (refine pure_ (i := 3) (v := ?_) (a' := ?_) (bsR 26 4) rfl rfl (by kernel_rfl) (fun _ _ _ h => h) (Or.inl ⟨by rfl, ?_⟩) ?_ ?_; rotate_left; (intro w'; go_simp; with_reducible rfl); rotate_left; (go_simp; rfl))
       (refine take_ (i := 4) (v := ?_) (a' := ?_) (bsR 26 5) rfl rfl (by kernel_rfl) (fun _ _ _ h => h) (Or.inl ⟨by rfl, ?_⟩) hHeld ?_ ?_; rotate_left; (rintro w' ⟨s0, s1, s2, s3, s4⟩; go_simp; with_reducible rfl); rotate_left; (go_simp; rfl))
       (refine pure_ (i := 5) (v := ?_) (a' := ?_) (bsR 26 6) rfl rfl (by kernel_rfl) (fun _ _ _ h => h) (Or.inl ⟨by rfl, ?_⟩) ?_ ?_; rotate_left; (intro w'; go_simp; with_reducible rfl); rotate_left; (go_simp; rfl))
       (refine pure_ (i := 6) (v := ?_) (a' := ?_) (bsR 26 7) rfl rfl (by kernel_rfl) (fun _ _ _ h => h) (Or.inl ⟨by rfl, ?_⟩) ?_ ?_; rotate_left; (intro w'; go_simp; with_reducible rfl); rotate_left; (go_simp; rfl))
       (refine pure_ (i := 7) (v := ?_) (a' := ?_) (bsR 26 8) rfl rfl (by kernel_rfl) (fun _ _ _ h => h) (Or.inl ⟨by rfl, ?_⟩) ?_ ?_; rotate_left; (intro w'; go_simp; with_reducible rfl); rotate_left; (go_simp; rfl))
       (refine take_ (i := 8) (v := ?_) (a' := ?_) (bsR 26 9) rfl rfl (by kernel_rfl) (fun _ _ _ h => h) (Or.inl ⟨by rfl, ?_⟩) hHeld ?_ ?_; rotate_left; (rintro w' ⟨s0, s1, s2, s3, s4⟩; go_simp; with_reducible rfl); rotate_left; (go_simp; rfl))
       (refine pure_ (i := 9) (v := ?_) (a' := ?_) (bsR 26 10) rfl rfl (by kernel_rfl) (fun _ _ _ h => h) (Or.inl ⟨by rfl, ?_⟩) ?_ ?_; rotate_left; (intro w'; go_simp; with_reducible rfl); rotate_left; (go_simp; rfl))
       (refine take_ (i := 10) (v := ?_) (a' := ?_) (bsR 26 11) rfl rfl (by kernel_rfl) (fun _ _ _ h => h) (Or.inl ⟨by rfl, ?_⟩) hHeld ?_ ?_; rotate_left; (rintro w' ⟨s0, s1, s2, s3, s4⟩; go_simp; with_reducible rfl); rotate_left; (go_simp; rfl))
       (refine pure_ (i := 11) (v := ?_) (a' := ?_) (bsR 26 12) rfl rfl (by kernel_rfl) (fun _ _ _ h => h) (Or.inl ⟨by rfl, ?_⟩) ?_ ?_; rotate_left; (intro w'; go_simp; with_reducible rfl); rotate_left; (go_simp; rfl))
       (refine pure_ (i := 12) (v := ?_) (a' := ?_) (bsR 26 13) rfl rfl (by kernel_rfl) (fun _ _ _ h => h) (Or.inl ⟨by rfl, ?_⟩) ?_ ?_; rotate_left; (intro w'; go_simp; with_reducible rfl); rotate_left; (go_simp; rfl))
       (refine pure_ (i := 13) (v := ?_) (a' := ?_) (bsR 26 14) rfl rfl (by kernel_rfl) (fun _ _ _ h => h) (Or.inl ⟨by rfl, ?_⟩) ?_ ?_; rotate_left; (intro w'; go_simp; with_reducible rfl); rotate_left; (go_simp; rfl))
       (refine pure_ (i := 14) (v := undef) (a' := ?_) (bsR 26 15) rfl rfl (by kernel_rfl) (fun _ _ _ h => h) (Or.inr ⟨by rfl, rfl⟩) ?_ ?_; rotate_left; (go_simp; rfl))
       (refine pure_ (i := 15) (v := undef) (a' := ?_) (bsR 26 16) rfl rfl (by kernel_rfl) (fun _ _ _ h => h) (Or.inr ⟨by rfl, rfl⟩) ?_ ?_; rotate_left; (go_simp; rfl))
       (refine pure_ (i := 16) (v := undef) (a' := ?_) (bsR 26 17) rfl rfl (by kernel_rfl) (fun _ _ _ h => h) (Or.inr ⟨by rfl, rfl⟩) ?_ ?_; rotate_left; (go_simp; rfl))
       (refine pure_ (i := 17) (v := undef) (a' := ?_) (bsR 26 18) rfl rfl (by kernel_rfl) (fun _ _ _ h => h) (Or.inr ⟨by rfl, rfl⟩) ?_ ?_; rotate_left; (go_simp; rfl))
       (refine pure_ (i := 18) (v := undef) (a' := ?_) (bsR 26 19) rfl rfl (by kernel_rfl) (fun _ _ _ h => h) (Or.inr ⟨by rfl, rfl⟩) ?_ ?_; rotate_left; (go_simp; rfl))
       (refine pure_ (i := 19) (v := undef) (a' := ?_) (bsR 26 20) rfl rfl (by kernel_rfl) (fun _ _ _ h => h) (Or.inr ⟨by rfl, rfl⟩) ?_ ?_; rotate_left; (go_simp; rfl))
       (refine pure_ (i := 20) (v := undef) (a' := ?_) (bsR 26 21) rfl rfl (by kernel_rfl) (fun _ _ _ h => h) (Or.inr ⟨by rfl, rfl⟩) ?_ ?_; rotate_left; (go_simp; rfl))
       (refine pure_ (i := 21) (v := undef) (a' := ?_) (bsR 26 22) rfl rfl (by kernel_rfl) (fun _ _ _ h => h) (Or.inr ⟨by rfl, rfl⟩) ?_ ?_; rotate_left; (go_simp; rfl))
       (refine pure_ (i := 22) (v := undef) (a' := ?_) (bsR 26 23) rfl rfl (by kernel_rfl) (fun _ _ _ h => h) (Or.inr ⟨by rfl, rfl⟩) ?_ ?_; rotate_left; (go_simp; rfl))
       (refine pure_ (i := 23) (v := undef) (a' := ?_) (bsR 26 24) rfl rfl (by kernel_rfl) (fun _ _ _ h => h) (Or.inr ⟨by rfl, rfl⟩) ?_ ?_; rotate_left; (go_simp; rfl))
       (refine pure_ (i := 24) (v := undef) (a' := ?_) (bsR 26 25) rfl rfl (by kernel_rfl) (fun _ _ _ h => h) (Or.inr ⟨by rfl, rfl⟩) ?_ ?_; rotate_left; (go_simp; rfl))
       (refine pure_ (i := 25) (v := ?_) (a' := ?_) (bsR 26 26) rfl rfl (by kernel_rfl) (fun _ _ _ h => h) (Or.inl ⟨by rfl, ?_⟩) ?_ ?_; rotate_left; (intro w'; go_simp; with_reducible rfl); rotate_left; (go_simp; rfl))
       refine done_ (by kernel_rfl) ?_
       go_wp2_with fail
       (try go_ret)
       exact ⟨by rw [HV.out]; rfl, by rw [HNN.out]; exact HBE.out⟩
      ·
       rw [if_pos he] at hz
       have HZ3 := Aside0.mk hz
       have de : (pf != y.f0) = false := bne_eq_false_iff_eq.2 he
       have hje : (j ≤ e6) = True := eq_true (by omega)
       clear hz hpf he
       go_wp2_with fail
       go_cut [61] (fun s61 wx => s61 = .bool (decide (I ≥ 0)) ∧ Aside0 (Below wc.heap.size wc wx))
       case first =>
        refine start_ (n := 26) (S := fun w' => w'.cell? ⟨N, 0, none⟩ = some (.slice (some bd) m d) ∧ w'.cell? ⟨N + 1, 0, none⟩ = some (.int .i64 y.f0) ∧ w'.cell? ⟨N + 1, 6, none⟩ = some (.slice (some aq) n6 e6) ∧ w'.cell? (aq.add j) = some (.int .i64 x) ∧ w'.cell? ⟨(bd.add (t * 7)).block, (bd.add (t * 7)).off + 1, none⟩ = some (.int .i64 pf)) (ds := []) (bsR 26 0) (by kernel_rfl) rfl (by kernel_rfl) ⟨p0, v0, v6, vc, hy1⟩ (fun hHeld => ?_)
        (refine pure_ (i := 0) (v := ?_) (a' := ?_) (bsR 26 1) rfl rfl (by kernel_rfl) (fun _ _ _ h => h) (Or.inl ⟨by rfl, ?_⟩) ?_ ?_; rotate_left; (intro w'; go_simp; with_reducible rfl); rotate_left; (go_simp; rfl))
        (refine pure_ (i := 1) (v := ?_) (a' := ?_) (bsR 26 2) rfl rfl (by kernel_rfl) (fun _ _ _ h => h) (Or.inl ⟨by rfl, ?_⟩) ?_ ?_; rotate_left; (intro w'; go_simp; with_reducible rfl); rotate_left; (go_simp; rfl))
        (refine pure_ (i := 2) (v := ?_) (a' := ?_) (bsR 26 3) rfl rfl (by kernel_rfl) (fun _ _ _ h => h) (Or.inl ⟨by rfl, ?_⟩) ?_ ?_; rotate_left; (intro w'; go_simp; with_reducible rfl); rotate_left; (go_simp; rfl))
        (refine pure_ (i := 3) (v := ?_) (a' := ?_) (bsR 26 4) rfl rfl (by kernel_rfl) (fun _ _ _ h => h) (Or.inl ⟨by rfl, ?_⟩) ?_ ?_; rotate_left; (intro w'; go_simp; with_reducible rfl); rotate_left; (go_simp; rfl))
        (refine take_ (i := 4) (v := ?_) (a' := ?_) (bsR 26 5) rfl rfl (by kernel_rfl) (fun _ _ _ h => h) (Or.inl ⟨by rfl, ?_⟩) hHeld ?_ ?_; rotate_left; (rintro w' ⟨s0, s1, s2, s3, s4⟩; go_simp; with_reducible rfl); rotate_left; (go_simp; rfl))
        (refine pure_ (i := 5) (v := ?_) (a' := ?_) (bsR 26 6) rfl rfl (by kernel_rfl) (fun _ _ _ h => h) (Or.inl ⟨by rfl, ?_⟩) ?_ ?_; rotate_left; (intro w'; go_simp; with_reducible rfl); rotate_left; (go_simp; rfl))
        (refine pure_ (i := 6) (v := ?_) (a' := ?_) (bsR 26 7) rfl rfl (by kernel_rfl) (fun _ _ _ h => h) (Or.inl ⟨by rfl, ?_⟩) ?_ ?_; rotate_left; (intro w'; go_simp; with_reducible rfl); rotate_left; (go_simp; rfl))
        (refine pure_ (i := 7) (v := ?_) (a' := ?_) (bsR 26 8) rfl rfl (by kernel_rfl) (fun _ _ _ h => h) (Or.inl ⟨by rfl, ?_⟩) ?_ ?_; rotate_left; (intro w'; go_simp; with_reducible rfl); rotate_left; (go_simp; rfl))
        (refine take_ (i := 8) (v := ?_) (a' := ?_) (bsR 26 9) rfl rfl (by kernel_rfl) (fun _ _ _ h => h) (Or.inl ⟨by rfl, ?_⟩) hHeld ?_ ?_; rotate_left; (rintro w' ⟨s0, s1, s2, s3, s4⟩; go_simp; with_reducible rfl); rotate_left; (go_simp; rfl))
        (refine pure_ (i := 9) (v := ?_) (a' := ?_) (bsR 26 10) rfl rfl (by kernel_rfl) (fun _ _ _ h => h) (Or.inl ⟨by rfl, ?_⟩) ?_ ?_; rotate_left; (intro w'; go_simp; with_reducible rfl); rotate_left; (go_simp; rfl))
        (refine take_ (i := 10) (v := ?_) (a' := ?_) (bsR 26 11) rfl rfl (by kernel_rfl) (fun _ _ _ h => h) (Or.inl ⟨by rfl, ?_⟩) hHeld ?_ ?_; rotate_left; (rintro w' ⟨s0, s1, s2, s3, s4⟩; go_simp; with_reducible rfl); rotate_left; (go_simp; rfl))
        (refine pure_ (i := 11) (v := ?_) (a' := ?_) (bsR 26 12) rfl rfl (by kernel_rfl) (fun _ _ _ h => h) (Or.inl ⟨by rfl, ?_⟩) ?_ ?_; rotate_left; (intro w'; go_simp; with_reducible rfl); rotate_left; (go_simp; rfl))
        (refine pure_ (i := 12) (v := ?_) (a' := ?_) (bsR 26 13) rfl rfl (by kernel_rfl) (fun _ _ _ h => h) (Or.inl ⟨by rfl, ?_⟩) ?_ ?_; rotate_left; (intro w'; go_simp; with_reducible rfl); rotate_left; (go_simp; rfl))
        (refine pure_ (i := 13) (v := ?_) (a' := ?_) (bsR 26 14) rfl rfl (by kernel_rfl) (fun _ _ _ h => h) (Or.inl ⟨by rfl, ?_⟩) ?_ ?_; rotate_left; (intro w'; go_simp; with_reducible rfl); rotate_left; (go_simp; rfl))
        (refine pure_ (i := 14) (v := ?_) (a' := ?_) (bsR 26 15) rfl rfl (by kernel_rfl) (fun _ _ _ h => h) (Or.inl ⟨by rfl, ?_⟩) ?_ ?_; rotate_left; (intro w'; go_simp; with_reducible rfl); rotate_left; (go_simp; rfl))
        (refine take_ (i := 15) (v := ?_) (a' := ?_) (bsR 26 16) rfl rfl (by kernel_rfl) (fun _ _ _ h => h) (Or.inl ⟨by rfl, ?_⟩) hHeld ?_ ?_; rotate_left; (rintro w' ⟨s0, s1, s2, s3, s4⟩; go_simp; with_reducible rfl); rotate_left; (go_simp; rfl))
        (refine pure_ (i := 16) (v := ?_) (a' := ?_) (bsR 26 17) rfl rfl (by kernel_rfl) (fun _ _ _ h => h) (Or.inl ⟨by rfl, ?_⟩) ?_ ?_; rotate_left; (intro w'; go_simp; with_reducible rfl); rotate_left; (go_simp; rfl))
        (refine pure_ (i := 17) (v := ?_) (a' := ?_) (bsR 26 18) rfl rfl (by kernel_rfl) (fun _ _ _ h => h) (Or.inl ⟨by rfl, ?_⟩) ?_ ?_; rotate_left; (intro w'; go_simp; with_reducible rfl); rotate_left; (go_simp; rfl))
        (refine pure_ (i := 18) (v := ?_) (a' := ?_) (bsR 26 19) rfl rfl (by kernel_rfl) (fun _ _ _ h => h) (Or.inl ⟨by rfl, ?_⟩) ?_ ?_; rotate_left; (intro w'; go_simp; with_reducible rfl); rotate_left; (go_simp; rfl))
        (refine take_ (i := 19) (v := ?_) (a' := ?_) (bsR 26 20) rfl rfl (by kernel_rfl) (fun _ _ _ h => h) (Or.inl ⟨by rfl, ?_⟩) hHeld ?_ ?_; rotate_left; (rintro w' ⟨s0, s1, s2, s3, s4⟩; go_simp; with_reducible rfl); rotate_left; (go_simp; rfl))
        (refine pure_ (i := 20) (v := ?_) (a' := ?_) (bsR 26 21) rfl rfl (by kernel_rfl) (fun _ _ _ h => h) (Or.inl ⟨by rfl, ?_⟩) ?_ ?_; rotate_left; (intro w'; go_simp; with_reducible rfl); rotate_left; (go_simp; rfl))
        (refine pure_ (i := 21) (v := ?_) (a' := ?_) (bsR 26 22) rfl rfl (by kernel_rfl) (fun _ _ _ h => h) (Or.inl ⟨by rfl, ?_⟩) ?_ ?_; rotate_left; (intro w'; go_simp; with_reducible rfl); rotate_left; (go_simp; rfl))
        (refine take_ (i := 22) (v := ?_) (a' := ?_) (bsR 26 23) rfl rfl (by kernel_rfl) (fun _ _ _ h => h) (Or.inl ⟨by rfl, ?_⟩) hHeld ?_ ?_; rotate_left; (rintro w' ⟨s0, s1, s2, s3, s4⟩; go_simp; with_reducible rfl); rotate_left; (go_simp; rfl))
        refine one_ (i := 23) (N := (some 59)) (bsR 26 24) rfl rfl (by kernel_rfl) (by decide) (fun K hK => ?_)
        refine goes_ Try.func52 (by kernel_rfl) rfl #[.slice (some aq) j e6, .int .i64 x] (by rfl) rfl rfl (by (try simp only [List.map_toArray, List.map_cons, List.map_nil]); first | done | rfl) ?_
        refine (HI0.out _ (HNN.out ▸ HBD.out)).mono ?_
        rintro e w8 ⟨rfl, hd8⟩
        refine ⟨_, rfl, ?_⟩
        have HB8 : Aside0 (Below wc.heap.size wc w8) := ⟨(below_drew1 (Below.refl _ _)).trans hd8.below⟩
        clear hd8
        refine hK.out _ _ ⟨pw_cell_below HB8.out p0, pw_cell_below HB8.out v0, pw_cell_below HB8.out v6, pw_cell_below HB8.out vc, pw_cell_below HB8.out hy1⟩ (fun hHeld => ?_)
        clear hK K
        (refine norm_ (a' := ?_) ?_ ?_; rotate_left; (show Act.put _ (some 59) _ = _; (go_simp; rfl)))
        (refine pure_ (i := 24) (v := ?_) (a' := ?_) (bsR 26 25) rfl rfl (by kernel_rfl) (fun _ _ _ h => h) (Or.inl ⟨by rfl, ?_⟩) ?_ ?_; rotate_left; (intro w'; go_simp; with_reducible rfl); rotate_left; (go_simp; rfl))
        (refine pure_ (i := 25) (v := ?_) (a' := ?_) (bsR 26 26) rfl rfl (by kernel_rfl) (fun _ _ _ h => h) (Or.inl ⟨by rfl, ?_⟩) ?_ ?_; rotate_left; (intro w'; go_simp; with_reducible rfl); rotate_left; (go_simp; rfl))
        refine done_ (by kernel_rfl) ?_
        all_goals go_wp2_with fail
        all_goals go_meet
        all_goals exact ⟨rfl, HB8⟩
       case rest =>
        obtain ⟨rfl, HB9⟩ := hcut
        have HBF : Aside0 (Below N w wc) := ⟨HBC.out.trans (HB9.out.mono HNC.out)⟩
        have HXF := Aside0.mk ((HB9.out.block _ (blk_lt HXC.out)).trans HXC.out)
        have HYF : Aside0 (RBox wc (N + 1) y A5 e5 n5 (some aq) e6 n6) := ⟨(HB9.out.block _ (blk_lt HYC.out)).trans HYC.out⟩
        clear p0 v0 v6 vc hy1
        by_cases hI : I < 0
        ·
         have dI : decide (I ≥ 0) = false := decide_eq_false (by omega)
         have HV : Aside0 (R = kidsRL ms y.f0 (y.f6.take (j + 1)) (y.f6.drop (j + 1))) := ⟨by rw [HZ3.out, if_pos hI]⟩
         rw [dI]
         clear hI dI
         go_wp2_with fail
         go_round
         case rel => exact ⟨j + 1, by omega, by go_num, HV, HBF, HXF, HYF⟩
         case measure => simp [intOf]; omega
        ·
         have dI : decide (I ≥ 0) = true := decide_eq_true (by omega)
         have HV : Aside0 (R = false) := ⟨by rw [HZ3.out, if_neg hI]⟩
         rw [dI]
         clear hI dI
         go_wp2_with fail
         (try go_ret)
         exact ⟨by rw [HV.out]; rfl, by rw [HNN.out]; exact HBF.out⟩
   ·
    obtain rfl : j = n6 := by omega
    have u6 : wr.cell? ⟨N + 1, 6, none⟩ = some (.slice A6 j e6) := blk_cell HYR.out 6
    have HV : Aside0 (R = true) := ⟨by rw [HZ.out, List.drop_eq_nil_of_le (by have := H6.out; omega)]; rfl⟩
    have d9 : decide ((j : Int) < (j : Int)) = false := decide_eq_false (by omega)
    go_wp2_with fail
    go_ret
    exact ⟨by rw [HV.out]; rfl, by rw [HNN.out]; exact HBR.out⟩
def fanlightref10_kids.f (l0_0 : List S64) (a0_1 a0_2 a1_0 a1_1 : Int) (a1_2 a1_3 a1_4 : ByteArray) (l1_5 : List S68) (l1_6 : List Int) : Option Bool := some (kidsR l0_0 ⟨a1_0, a1_1, a1_2, a1_3, a1_4, l1_5, l1_6⟩)
theorem fanlightref10_kids.calls (A0_0 : Option Addr) (c0_0 : Nat) (l0_0 : List S64) (a0_1 a0_2 a1_0 a1_1 : Int) (a1_2 a1_3 a1_4 : ByteArray) (A1_5 : Option Addr) (c1_5 : Nat) (l1_5 : List S68) (A1_6 : Option Addr) (c1_6 : Nat) (l1_6 : List Int) (r : Bool) (w : World) (hr0_0 : Kd.C k64 w A0_0 l0_0.length l0_0) (hc0_0 : l0_0.length ≤ c0_0) (hr1_5 : Kd.C k68 w A1_5 l1_5.length l1_5) (hc1_5 : l1_5.length ≤ c1_5) (hr1_6 : Kd.C (Kd.int .i64) w A1_6 l1_6.length l1_6) (hc1_6 : l1_6.length ≤ c1_6) (h : fanlightref10_kids.f l0_0 a0_1 a0_2 a1_0 a1_1 a1_2 a1_3 a1_4 l1_5 l1_6 = some r) :
  Calls Try.prog 51 #[.agg #[.slice A0_0 l0_0.length c0_0, .int .i64 a0_1, .int .i64 a0_2], .agg #[.int .i64 a1_0, .int .i64 a1_1, .string a1_2, .string a1_3, .string a1_4, .slice A1_5 l1_5.length c1_5, .slice A1_6 l1_6.length c1_6]] w fun e w' => e = .returned (.bool r) ∧ Below w.heap.size w w' := by
 injection h with h
 subst h
 exact kidsR_is A0_0 c0_0 _ l0_0 a0_1 a0_2 ⟨a1_0, a1_1, a1_2, a1_3, a1_4, l1_5, l1_6⟩ A1_5 c1_5 _ A1_6 c1_6 _ w hr0_0 rfl hc0_0 hr1_6 rfl hc1_6
end Go.Proofs.Ytleofbidijbahaa.D
