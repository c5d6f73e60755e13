import Derived.Test.YtleofbidijbahaaYD0
import Derived.Test.YtleofbidijbahaaYD19
import Derived.Test.YtleofbidijbahaaYD45
import Derived.Test.YtleofbidijbahaaYD46
namespace Go.Proofs.Ytleofbidijbahaa.D
open Go.RowKit Go.Proofs.YtleofbidijbahaaW.PrintWords Go.Proofs.YtleofbidijbahaaW.PrintLast Go.Proofs.YtleofbidijbahaaW.PrintMore
attribute [local go_sem] max2_int min2_int max_two min_two max_three min_three max_four min_four   -- for this text's walks alone
set_option linter.unusedVariables false
set_option linter.unusedSimpArgs false
def sameA : List S68 → List S68 → Bool
 | [], [] => true
 | x :: xs, y :: ys => if (!((x.f0.toList) == (y.f0.toList)) || (!((x.f1.toList) == (y.f1.toList)))) = true then false else sameA xs ys
 | _, _ => false
theorem sameA_ev (f g : List S68) (hf : f.length ≤ 9223372036854775807) : Ev (fun k => fanlightplain_SameAttrs.f k f g) (sameA f g) := by
 have rdA : ∀ {l pre rest : List S68} {x : S68}, l = pre ++ x :: rest → rd_T68 l (pre.length : Int) = x := by
  intro l pre rest x h
  unfold rd_T68
  rw [Int.toNat_natCast, h, List.getD_eq_getElem?_getD, List.getElem?_append_right (Nat.le_refl _), Nat.sub_self]
  rfl
 have hl : ∀ (a b pa pb : List S68), f = pa ++ a → g = pb ++ b → pa.length = pb.length → a.length = b.length → Ev (fun k => fanlightplain_SameAttrs.l0 k f g (pa.length : Int)) (sameA a b) := by
  intro a
  induction a with
  | nil =>
   intro b pa pb h1 h2 h3 h4
   refine Ev.step (fun k => rfl) ?_
   have hlen : f.length = pa.length := by rw [h1]; simp
   have hb : b = [] := List.length_eq_zero_iff.1 h4.symm
   simp only [fanlightplain_SameAttrs.l0, if_neg (show ¬ (pa.length : Int) < (f.length : Int) by omega), hb, sameA]
   exact Ev.now _
  | cons x a ih =>
   intro b pa pb h1 h2 h3 h4
   cases b with
   | nil => simp at h4
   | cons y b =>
    refine Ev.step (fun k => rfl) ?_
    have hlen : f.length = pa.length + 1 + a.length := by rw [h1]; simp; omega
    have hlen2 : g.length = pb.length + 1 + b.length := by rw [h2]; simp; omega
    have hw : wrap64 ((pa.length : Int) + 1) = ((pa.length + 1 : Nat) : Int) := by unfold wrap64; omega
    have hx := rdA h1
    have hy := rdA h2
    rw [← h3] at hy
    have hnext := ih b (pa ++ [x]) (pb ++ [y]) (by rw [h1]; simp) (by rw [h2]; simp) (by simp [h3]) (by simpa using h4)
    rw [show (pa ++ [x]).length = pa.length + 1 by simp] at hnext
    simp only [fanlightplain_SameAttrs.l0, if_pos (show (pa.length : Int) < (f.length : Int) by omega), if_pos (show (0 : Int) ≤ (pa.length : Int) by omega), if_pos (show (pa.length : Int) < (g.length : Int) by omega), hx, hy, hw, sameA]
    split
    ·
     exact Ev.now _
    ·
     exact hnext
 unfold fanlightplain_SameAttrs.f
 by_cases h : f.length = g.length
 ·
  simp only [if_pos (show (f.length : Int) = (g.length : Int) by omega)]
  exact hl f g [] [] rfl rfl rfl h
 ·
  simp only [if_neg (show ¬ (f.length : Int) = (g.length : Int) by omega)]
  have : ∀ (f g : List S68), f.length ≠ g.length → sameA f g = false := by
   intro f
   induction f with
   | nil => intro g h; cases g with
    | nil => exact absurd rfl h
    | cons y g => rfl
   | cons x f ih => intro g h; cases g with
    | nil => rfl
    | cons y g =>
     rw [sameA]
     split
     ·
      rfl
     ·
      exact ih g (fun e => h (by rw [List.length_cons, List.length_cons, e]))
  rw [this f g h]
  exact Ev.now _
def sameI : List Int → List Int → Bool
 | [], [] => true
 | x :: xs, y :: ys => if x = y then sameI xs ys else false
 | _, _ => false
theorem sameI_ev (f g : List Int) (hf : f.length ≤ 9223372036854775807) : Ev (fun k => fanlightplain_SameInts.f k f g) (sameI f g) := by
 have rdA : ∀ {l pre rest : List Int} {x : Int}, l = pre ++ x :: rest → rd l (pre.length : Int) = x := by
  intro l pre rest x h
  unfold rd
  rw [Int.toNat_natCast, h, List.getD_eq_getElem?_getD, List.getElem?_append_right (Nat.le_refl _), Nat.sub_self]
  rfl
 have hl : ∀ (a b pa pb : List Int), f = pa ++ a → g = pb ++ b → pa.length = pb.length → a.length = b.length → Ev (fun k => fanlightplain_SameInts.l0 k f g (pa.length : Int)) (sameI a b) := by
  intro a
  induction a with
  | nil =>
   intro b pa pb h1 h2 h3 h4
   refine Ev.step (fun k => rfl) ?_
   have hlen : f.length = pa.length := by rw [h1]; simp
   have hb : b = [] := List.length_eq_zero_iff.1 h4.symm
   simp only [fanlightplain_SameInts.l0, if_neg (show ¬ (pa.length : Int) < (f.length : Int) by omega), hb, sameI]
   exact Ev.now _
  | cons x a ih =>
   intro b pa pb h1 h2 h3 h4
   cases b with
   | nil => simp at h4
   | cons y b =>
    refine Ev.step (fun k => rfl) ?_
    have hlen : f.length = pa.length + 1 + a.length := by rw [h1]; simp; omega
    have hlen2 : g.length = pb.length + 1 + b.length := by rw [h2]; simp; omega
    have hw : wrap64 ((pa.length : Int) + 1) = ((pa.length + 1 : Nat) : Int) := by unfold wrap64; omega
    have hx := rdA h1
    have hy := rdA h2
    rw [← h3] at hy
    have hnext := ih b (pa ++ [x]) (pb ++ [y]) (by rw [h1]; simp) (by rw [h2]; simp) (by simp [h3]) (by simpa using h4)
    rw [show (pa ++ [x]).length = pa.length + 1 by simp] at hnext
    simp only [fanlightplain_SameInts.l0, if_pos (show (pa.length : Int) < (f.length : Int) by omega), if_pos (show (0 : Int) ≤ (pa.length : Int) by omega), if_pos (show (pa.length : Int) < (g.length : Int) by omega), hx, hy, hw, sameI]
    split
    ·
     exact hnext
    ·
     exact Ev.now _
 unfold fanlightplain_SameInts.f
 by_cases h : f.length = g.length
 ·
  simp only [if_pos (show (f.length : Int) = (g.length : Int) by omega)]
  exact hl f g [] [] rfl rfl rfl h
 ·
  simp only [if_neg (show ¬ (f.length : Int) = (g.length : Int) by omega)]
  have : ∀ (f g : List Int), f.length ≠ g.length → sameI f g = false := by
   intro f
   induction f with
   | nil => intro g h; cases g with
    | nil => exact absurd rfl h
    | cons y g => rfl
   | cons x f ih => intro g h; cases g with
    | nil => rfl
    | cons y g =>
     rw [sameI]
     split
     ·
      exact ih g (fun e => h (by rw [List.length_cons, List.length_cons, e]))
     ·
      rfl
  rw [this f g h]
  exact Ev.now _
def sameN (x : S63) (y : S64) : Bool := (x.f0 == y.f0) && ((x.f1 == y.f1) && ((x.f2.toList == y.f2.toList) && ((x.f3.toList == y.f3.toList) && ((x.f4.toList == y.f4.toList) && (sameA x.f5 y.f5 && sameI x.f6 y.f6)))))
def alikeL : List S63 → List S64 → Int
 | x :: xs, y :: ys => if sameN x y = true then alikeL xs ys else 1
 | _, _ => 0
def alikeI (ns : List S63) (r nx : Int) (ms : List S64) (r2 nx2 : Int) : Int := if r = r2 then (if nx = nx2 then (if ns.length = ms.length then alikeL ns ms else 1) else 1) else 1
theorem two_alloc (w : World) (o1 o2 : Obj) : ((w.alloc o1).alloc o2).drew.heap[w.heap.size]? = some o1 ∧ ((w.alloc o1).alloc o2).drew.heap[w.heap.size + 1]? = some o2 ∧ Below w.heap.size w ((w.alloc o1).alloc o2).drew := by
 have h1 := World.alloc_heap_new w o1
 have hs : (w.alloc o1).heap.size = w.heap.size + 1 := by simp
 have h2 := World.alloc_heap_new (w.alloc o1) o2
 rw [hs] at h2
 exact ⟨((below_alloc (Below.refl (w.alloc o1).heap.size (w.alloc o1)) o2).block _ (by omega)).trans h1, h2, below_drew1 (below_alloc (below_alloc (Below.refl _ _) _) _)⟩
set_option maxRecDepth 100000 in
set_option maxHeartbeats 8000000 in
theorem alike_is (A : Option Addr) (c n : Nat) (ns : List S63) (r nx : Int) (B : Option Addr) (d m : Nat) (ms : List S64) (r2 nx2 : Int) (w : World) (hC : Kd.C k63 w A n ns) (hn : ns.length = n) (hD : Kd.C k64 w B m ms) (hm : ms.length = m) :
  Calls Try.prog 15 #[.agg #[.slice A n c, .int .i64 r, .int .i64 nx], .agg #[.slice B m d, .int .i64 r2, .int .i64 nx2]] w fun e w' => e = .returned (.int .i64 (alikeI ns r nx ms r2 nx2)) ∧ Below w.heap.size w w' := by
 have HC := Aside0.mk hC
 have HD := Aside0.mk hD
 have hnn : n ≤ 9223372036854775807 := hC.2.1
 have HN := Lib.hid hn
 have HM := Lib.hid hm
 obtain ⟨R, hR⟩ : ∃ R, alikeI ns r nx ms r2 nx2 = R := ⟨_, rfl⟩
 rw [hR]
 unfold alikeI at hR
 rw [hn, hm] at hR
 have HR := Lib.hid hR
 obtain ⟨N, hNN⟩ : ∃ N, w.heap.size = N := ⟨_, rfl⟩
 obtain ⟨W1, hW1⟩ : ∃ W, w.alloc (.cells #[.slice A n c, .int .i64 r, .int .i64 nx] 28) = W := ⟨_, rfl⟩
 have hb1 : Below N w W1 := by rw [← hW1, ← hNN]; exact (Below.refl _ _).alloc (Nat.le_refl _) _
 have hx1 : W1.heap[N]? = some (.cells #[.slice A n c, .int .i64 r, .int .i64 nx] 28 (0, 0)) := by rw [← hW1, ← hNN]; exact World.alloc_heap_new w _
 have hs1 : W1.heap.size = N + 1 := by rw [← hW1, ← hNN]; simp
 obtain ⟨W2, hW2⟩ : ∃ W, W1.alloc (.cells #[.slice B m d, .int .i64 r2, .int .i64 nx2] 24) = W := ⟨_, rfl⟩
 have hb2 : Below W1.heap.size W1 W2 := by rw [← hW2]; exact (Below.refl _ _).alloc (Nat.le_refl _) _
 have hx2 : W2.heap[N + 1]? = some (.cells #[.slice B m d, .int .i64 r2, .int .i64 nx2] 24 (0, 0)) := by rw [← hW2, ← hs1]; exact World.alloc_heap_new W1 _
 have hx1' := (hb2.block _ (blk_lt hx1)).trans hx1
 have hb12 : Below N w W2 := hb1.trans (hb2.mono (by omega))
 have y0 : W2.cell? ⟨N, 0, none⟩ = some (.slice A n c) := blk_cell hx1' 0
 have y1 : W2.cell? ⟨N, 1, none⟩ = some (.int .i64 r) := blk_cell hx1' 1
 have y2 : W2.cell? ⟨N, 2, none⟩ = some (.int .i64 nx) := blk_cell hx1' 2
 have z0 : W2.cell? ⟨N + 1, 0, none⟩ = some (.slice B m d) := blk_cell hx2 0
 have z1 : W2.cell? ⟨N + 1, 1, none⟩ = some (.int .i64 r2) := blk_cell hx2 1
 have z2 : W2.cell? ⟨N + 1, 2, none⟩ = some (.int .i64 nx2) := blk_cell hx2 2
 have HX1 := Aside0.mk hx1'
 have HX2 := Aside0.mk hx2
 have HB := Aside0.mk hb12
 have HNN := Lib.hid hNN
 have HS1 := Lib.hid hs1
 clear hC hn hD hm hR hb1 hx1 hb2 hx2 hx1' hb12
 by_cases c1 : r = r2
 rotate_left
 ·
  have d1 : (r != r2) = true := bne_iff_ne.2 c1
  have HV : Aside0 (R = 1) := ⟨by rw [← HR.out, if_neg c1]⟩
  go_enter Try.func15, Try.ntmps15
  go_wp2_with fail
  go_ret
  exact ⟨by rw [HV.out]; rfl, by rw [HNN.out]; exact HB.out⟩
 by_cases c2 : nx = nx2
 rotate_left
 ·
  have d1 : (r != r2) = false := bne_eq_false_iff_eq.2 c1
  have d2 : (nx != nx2) = true := bne_iff_ne.2 c2
  have HV : Aside0 (R = 1) := ⟨by rw [← HR.out, if_pos c1, if_neg c2]⟩
  clear c1
  go_enter Try.func15, Try.ntmps15
  go_wp2_with fail
  go_ret
  exact ⟨by rw [HV.out]; rfl, by rw [HNN.out]; exact HB.out⟩
 by_cases c3 : n = m
 rotate_left
 ·
  have d1 : (r != r2) = false := bne_eq_false_iff_eq.2 c1
  have d2 : (nx != nx2) = false := bne_eq_false_iff_eq.2 c2
  have d3 : ((n : Int) != (m : Int)) = true := bne_iff_ne.2 (by omega)
  have HV : Aside0 (R = 1) := ⟨by rw [← HR.out, if_pos c1, if_pos c2, if_neg c3]⟩
  clear c1 c2
  go_enter Try.func15, Try.ntmps15
  go_wp2_with fail
  go_ret
  exact ⟨by rw [HV.out]; rfl, by rw [HNN.out]; exact HB.out⟩
 have HR1 : Aside0 (R = alikeL ns ms) := ⟨by rw [← HR.out, if_pos c1, if_pos c2, if_pos c3]⟩
 have d1 : (r != r2) = false := bne_eq_false_iff_eq.2 c1
 have d2 : (nx != nx2) = false := bne_eq_false_iff_eq.2 c2
 have d3 : ((n : Int) != (m : Int)) = false := bne_eq_false_iff_eq.2 (by omega)
 have C3 := Lib.hid c3
 clear c1 c2 c3 HR
 go_enter Try.func15, Try.ntmps15
 go_wp2_with fail
 go_loopw [5] (fun i wr => ∃ j : Nat, j ≤ n ∧ i = .int .i64 j ∧ Aside0 (R = alikeL (ns.drop j) (ms.drop j)) ∧ Aside0 (Below N w wr) ∧ Aside0 (wr.heap[N]? = some (.cells #[.slice A n c, .int .i64 r, .int .i64 nx] 28 (0, 0))) ∧ Aside0 (wr.heap[N + 1]? = some (.cells #[.slice B m d, .int .i64 r2, .int .i64 nx2] 24 (0, 0)))) (fun i _ => n - (intOf i).toNat)
 case atStart => exact ⟨0, Nat.zero_le _, rfl, HR1, HB, HX1, HX2⟩
 case round =>
  obtain ⟨j, hj, rfl, HZ, HBR, HXR, HYR⟩ := hrel
  have q0 : wr.cell? ⟨N, 0, none⟩ = some (.slice A n c) := blk_cell HXR.out 0
  have q1 : wr.cell? ⟨N + 1, 0, none⟩ = some (.slice B m d) := blk_cell HYR.out 0
  by_cases hlt : j < n
  ·
   have hkl : j < ns.length := by have := HN.out; omega
   have hkm : j < ms.length := by have := HM.out; have := C3.out; omega
   have hlm : (j : Int) < (m : Int) := by have := C3.out; omega
   obtain ⟨ad, A5, e5, A6, e6, rfl, hx0, hx1, hx2, hx3, hx4, hx5, hx6, hl5, hC5, hl6, hC6⟩ := at_T63 (Kd.C_below HC.out (HNN.out ▸ HBR.out)) (j : Int) (by omega) (by omega)
   obtain ⟨bd, B5, g5, B6, g6, rfl, hy0, hy1, hy2, hy3, hy4, hy5, hy6, hm5, hD5, hm6, hD6⟩ := at_T64 (Kd.C_below HD.out (HNN.out ▸ HBR.out)) (j : Int) (by omega) (by omega)
   have ex : rd_T63 ns (j : Int) = ns[j] := rd_lt hkl
   have ey : rd_T64 ms (j : Int) = ms[j] := by
    unfold rd_T64
    rw [Int.toNat_natCast, List.getD_eq_getElem?_getD, List.getElem?_eq_getElem hkm, Option.getD_some]
   have hz := HZ.out
   rw [List.drop_eq_getElem_cons hkl, List.drop_eq_getElem_cons hkm, alikeL] at hz
   rw [ex] at hx0 hx1 hx2 hx3 hx4 hx5 hx6 hl5 hC5 hl6 hC6
   rw [ey] at hy0 hy1 hy2 hy3 hy4 hy5 hy6 hm5 hD5 hm6 hD6
   obtain ⟨x, hxe⟩ : ∃ x, ns[j] = x := ⟨_, rfl⟩
   obtain ⟨y, hye⟩ : ∃ y, ms[j] = y := ⟨_, rfl⟩
   rw [hxe] at hx0 hx1 hx2 hx3 hx4 hx5 hx6 hl5 hC5 hl6 hC6 hz
   rw [hye] at hy0 hy1 hy2 hy3 hy4 hy5 hy6 hm5 hD5 hm6 hD6 hz
   rw [Int.toNat_natCast] at hx0 hx1 hx2 hx3 hx4 hx5 hx6 hy0 hy1 hy2 hy3 hy4 hy5 hy6
   have h5b : x.f5.length ≤ 9223372036854775807 := hC5.2.1
   have h6b : x.f6.length ≤ 9223372036854775807 := hC6.2.1
   have HSA : Aside0 (∀ W, Below wr.heap.size wr W → Calls Try.prog 36 #[.slice A5 x.f5.length e5, .slice B5 y.f5.length g5] W fun e w' => e = .returned (.bool (sameA x.f5 y.f5)) ∧ Drawn0 W w') := ⟨fun W hW => by
    obtain ⟨k, hk⟩ := (sameA_ev x.f5 y.f5 h5b).rounds
    exact fanlightplain_SameAttrs.calls k A5 e5 x.f5 B5 g5 y.f5 _ W (Kd.C_below hC5 hW) hl5 (Kd.C_below hD5 hW) hm5 hk⟩
   have HSI : Aside0 (∀ W, Below wr.heap.size wr W → Calls Try.prog 37 #[.slice A6 x.f6.length e6, .slice B6 y.f6.length g6] W fun e w' => e = .returned (.bool (sameI x.f6 y.f6)) ∧ Drawn0 W w') := ⟨fun W hW => by
    obtain ⟨k, hk⟩ := (sameI_ev x.f6 y.f6 h6b).rounds
    exact fanlightplain_SameInts.calls k A6 e6 x.f6 B6 g6 y.f6 _ W (Kd.C_below hC6 hW) hl6 (Kd.C_below hD6 hW) hm6 hk⟩
   have HZ2 := Aside0.mk hz
   obtain ⟨m5, e5m⟩ : ∃ m, x.f5.length = m := ⟨_, rfl⟩
   obtain ⟨m6, e6m⟩ : ∃ m, x.f6.length = m := ⟨_, rfl⟩
   obtain ⟨k5, e5k⟩ : ∃ m, y.f5.length = m := ⟨_, rfl⟩
   obtain ⟨k6, e6k⟩ : ∃ m, y.f6.length = m := ⟨_, rfl⟩
   rw [e5m] at hx5 HSA
   rw [e6m] at hx6 HSI
   rw [e5k] at hy5 HSA
   rw [e6k] at hy6 HSI
   have d9 : decide ((j : Int) < (n : Int)) = true := decide_eq_true (by omega)
   have hjm : (j : Int) < (m : Int) := hlm
   have GE0 : Aside0 (wr.heap.size ≤ wr.heap.size) := ⟨Nat.le_refl _⟩
   have GE1 : Aside0 (wr.heap.size ≤ wr.heap.size + 1) := ⟨Nat.le_succ _⟩
   have HRF : Aside0 (Below wr.heap.size wr wr) := ⟨Below.refl _ _⟩
   clear hl5 hC5 hl6 hC6 hm5 hD5 hm6 hD6 hz HZ ex ey hxe hye hkl hkm h5b h6b e5m e6m e5k e6k
   go_upto_region 6 with (fail)
   go_cut [6, 7] (fun s6 s7 wx => ∃ (b6 b7 : Nat), s6 = .pointer (some ⟨b6, 0, none⟩) ∧ s7 = .pointer (some ⟨b7, 0, none⟩) ∧ Aside0 (Below wr.heap.size wr wx) ∧ Aside0 (wx.heap[b6]? = some (.cells #[.int .i64 x.f0, .int .i64 x.f1, .string x.f2, .string x.f3, .string x.f4, .slice A5 m5 e5, .slice A6 m6 e6] 63 (0, 0))) ∧ Aside0 (wx.heap[b7]? = some (.cells #[.int .i64 y.f0, .int .i64 y.f1, .string y.f2, .string y.f3, .string y.f4, .slice B5 k5 g5, .slice B6 k6 g6] 64 (0, 0))))
   case first =>
    go_region_held3 (fun w' => w'.cell? ⟨N, 0, none⟩ = some (.slice (some ad) n c) ∧ w'.cell? ⟨N + 1, 0, none⟩ = some (.slice (some bd) m d) ∧ w'.cell? (ad.add (j * 7)) = some (.int .i64 x.f0) ∧ w'.cell? (⟨(ad.add (j * 7)).block, (ad.add (j * 7)).off + 1, none⟩) = some (.int .i64 x.f1) ∧ w'.cell? (⟨(ad.add (j * 7)).block, (ad.add (j * 7)).off + 2, none⟩) = some (.string x.f2) ∧ w'.cell? (⟨(ad.add (j * 7)).block, (ad.add (j * 7)).off + 3, none⟩) = some (.string x.f3) ∧ w'.cell? (⟨(ad.add (j * 7)).block, (ad.add (j * 7)).off + 4, none⟩) = some (.string x.f4) ∧ w'.cell? (⟨(ad.add (j * 7)).block, (ad.add (j * 7)).off + 5, none⟩) = some (.slice A5 m5 e5) ∧ w'.cell? (⟨(ad.add (j * 7)).block, (ad.add (j * 7)).off + 6, none⟩) = some (.slice A6 m6 e6) ∧ w'.cell? (bd.add (j * 7)) = some (.int .i64 y.f0) ∧ w'.cell? (⟨(bd.add (j * 7)).block, (bd.add (j * 7)).off + 1, none⟩) = some (.int .i64 y.f1) ∧ w'.cell? (⟨(bd.add (j * 7)).block, (bd.add (j * 7)).off + 2, none⟩) = some (.string y.f2) ∧ w'.cell? (⟨(bd.add (j * 7)).block, (bd.add (j * 7)).off + 3, none⟩) = some (.string y.f3) ∧ w'.cell? (⟨(bd.add (j * 7)).block, (bd.add (j * 7)).off + 4, none⟩) = some (.string y.f4) ∧ w'.cell? (⟨(bd.add (j * 7)).block, (bd.add (j * 7)).off + 5, none⟩) = some (.slice B5 k5 g5) ∧ w'.cell? (⟨(bd.add (j * 7)).block, (bd.add (j * 7)).off + 6, none⟩) = some (.slice B6 k6 g6)) (first | (exact (fun (hk_ : Below wr.heap.size wr _) => ⟨pw_cell_below hk_ q0, pw_cell_below hk_ q1, pw_cell_below hk_ hx0, pw_cell_below hk_ hx1, pw_cell_below hk_ hx2, pw_cell_below hk_ hx3, pw_cell_below hk_ hx4, pw_cell_below hk_ hx5, pw_cell_below hk_ hx6, pw_cell_below hk_ hy0, pw_cell_below hk_ hy1, pw_cell_below hk_ hy2, pw_cell_below hk_ hy3, pw_cell_below hk_ hy4, pw_cell_below hk_ hy5, pw_cell_below hk_ hy6⟩) (by repeat (first | (with_reducible first | exact HRF.out | apply below_alloc | apply below_drew1 | refine below_set ?_ GE0.out | refine below_set ?_ GE1.out)))) | go_keep) (fail)
    all_goals go_wp2_with fail
    ·
     go_meet
     exact ⟨wr.heap.size, wr.heap.size + 1, rfl, rfl, ⟨(two_alloc wr _ _).2.2⟩, ⟨(two_alloc wr _ _).1⟩, ⟨(two_alloc wr _ _).2.1⟩⟩
    ·
     go_meet
     exact ⟨wr.heap.size + 1, wr.heap.size, rfl, rfl, ⟨(two_alloc wr _ _).2.2⟩, ⟨(two_alloc wr _ _).2.1⟩, ⟨(two_alloc wr _ _).1⟩⟩
   case rest =>
    obtain ⟨b6, b7, rfl, rfl, HBW, H6, H7⟩ := hcut
    have HNW : Aside0 (N ≤ wr.heap.size) := ⟨by have := HBR.out.size; have := HNN.out; omega⟩
    have HBN : Aside0 (Below N w wc) := ⟨HBR.out.trans (HBW.out.mono HNW.out)⟩
    clear hx0 hx1 hx2 hx3 hx4 hx5 hx6 hy0 hy1 hy2 hy3 hy4 hy5 hy6 GE0 GE1 HRF
    have a0 : wc.cell? ⟨b6, 0, none⟩ = some (.int .i64 x.f0) := blk_cell H6.out 0
    have a1 : wc.cell? ⟨b6, 1, none⟩ = some (.int .i64 x.f1) := blk_cell H6.out 1
    have a2 : wc.cell? ⟨b6, 2, none⟩ = some (.string x.f2) := blk_cell H6.out 2
    have a3 : wc.cell? ⟨b6, 3, none⟩ = some (.string x.f3) := blk_cell H6.out 3
    have a4 : wc.cell? ⟨b6, 4, none⟩ = some (.string x.f4) := blk_cell H6.out 4
    have a5 : wc.cell? ⟨b6, 5, none⟩ = some (.slice A5 m5 e5) := blk_cell H6.out 5
    have a6 : wc.cell? ⟨b6, 6, none⟩ = some (.slice A6 m6 e6) := blk_cell H6.out 6
    have v0 : wc.cell? ⟨b7, 0, none⟩ = some (.int .i64 y.f0) := blk_cell H7.out 0
    have v1 : wc.cell? ⟨b7, 1, none⟩ = some (.int .i64 y.f1) := blk_cell H7.out 1
    have v2 : wc.cell? ⟨b7, 2, none⟩ = some (.string y.f2) := blk_cell H7.out 2
    have v3 : wc.cell? ⟨b7, 3, none⟩ = some (.string y.f3) := blk_cell H7.out 3
    have v4 : wc.cell? ⟨b7, 4, none⟩ = some (.string y.f4) := blk_cell H7.out 4
    have v5 : wc.cell? ⟨b7, 5, none⟩ = some (.slice B5 k5 g5) := blk_cell H7.out 5
    have v6 : wc.cell? ⟨b7, 6, none⟩ = some (.slice B6 k6 g6) := blk_cell H7.out 6
    by_cases s0 : x.f0 = y.f0
    rotate_left
    ·
     have s0b : (x.f0 == y.f0) = false := beq_eq_false_iff_ne.2 s0
     have s0c : (x.f0 != y.f0) = true := bne_iff_ne.2 s0
     have HV : Aside0 (R = 1) := ⟨by rw [HZ2.out, if_neg]; unfold sameN; rw [s0b, Bool.false_and]; decide⟩
     clear s0
     go_wp2_with fail
     go_ret
     exact ⟨by rw [HV.out]; rfl, by rw [HNN.out]; exact HBN.out⟩
    have s0b : (x.f0 == y.f0) = true := beq_iff_eq.2 s0
    have s0c : (x.f0 != y.f0) = false := bne_eq_false_iff_eq.2 s0
    clear s0
    by_cases s1 : x.f1 = y.f1
    rotate_left
    ·
     have s1b : (x.f1 == y.f1) = false := beq_eq_false_iff_ne.2 s1
     have s1c : (x.f1 != y.f1) = true := bne_iff_ne.2 s1
     have HV : Aside0 (R = 1) := ⟨by rw [HZ2.out, if_neg]; unfold sameN; rw [s0b, s1b, Bool.false_and, Bool.true_and]; decide⟩
     clear s1
     go_wp2_with fail
     go_ret
     exact ⟨by rw [HV.out]; rfl, by rw [HNN.out]; exact HBN.out⟩
    have s1b : (x.f1 == y.f1) = true := beq_iff_eq.2 s1
    have s1c : (x.f1 != y.f1) = false := bne_eq_false_iff_eq.2 s1
    clear s1
    by_cases s2 : x.f2.toList = y.f2.toList
    rotate_left
    ·
     have s2b : (x.f2.toList == y.f2.toList) = false := beq_eq_false_iff_ne.2 s2
     have HV : Aside0 (R = 1) := ⟨by rw [HZ2.out, if_neg]; unfold sameN; rw [s0b, s1b, s2b, Bool.false_and, Bool.true_and]; decide⟩
     clear s2
     go_wp2_with fail
     go_ret
     exact ⟨by rw [HV.out]; rfl, by rw [HNN.out]; exact HBN.out⟩
    have s2b : (x.f2.toList == y.f2.toList) = true := beq_iff_eq.2 s2
    clear s2
    by_cases s3 : x.f3.toList = y.f3.toList
    rotate_left
    ·
     have s3b : (x.f3.toList == y.f3.toList) = false := beq_eq_false_iff_ne.2 s3
     have HV : Aside0 (R = 1) := ⟨by rw [HZ2.out, if_neg]; unfold sameN; rw [s0b, s1b, s2b, s3b, Bool.false_and, Bool.true_and]; decide⟩
     clear s3
     go_wp2_with fail
     go_ret
     exact ⟨by rw [HV.out]; rfl, by rw [HNN.out]; exact HBN.out⟩
    have s3b : (x.f3.toList == y.f3.toList) = true := beq_iff_eq.2 s3
    clear s3
    by_cases s4 : x.f4.toList = y.f4.toList
    rotate_left
    ·
     have s4b : (x.f4.toList == y.f4.toList) = false := beq_eq_false_iff_ne.2 s4
     have HV : Aside0 (R = 1) := ⟨by rw [HZ2.out, if_neg]; unfold sameN; rw [s0b, s1b, s2b, s3b, s4b, Bool.false_and, Bool.true_and]; decide⟩
     clear s4
     go_wp2_with fail
     go_ret
     exact ⟨by rw [HV.out]; rfl, by rw [HNN.out]; exact HBN.out⟩
    have s4b : (x.f4.toList == y.f4.toList) = true := beq_iff_eq.2 s4
    clear s4
    have HSN : Aside0 (sameN x y = (sameA x.f5 y.f5 && sameI x.f6 y.f6)) := ⟨by unfold sameN; rw [s0b, s1b, s2b, s3b, s4b]; rfl⟩
    obtain ⟨qa, hqa⟩ : ∃ b, sameA x.f5 y.f5 = b := ⟨_, rfl⟩
    obtain ⟨qi, hqi⟩ : ∃ b, sameI x.f6 y.f6 = b := ⟨_, rfl⟩
    rw [hqa] at HSA HSN
    rw [hqi] at HSI HSN
    clear hqa hqi
    cases qa with
    | false =>
     have HV : Aside0 (R = 1) := ⟨by rw [HZ2.out, if_neg]; rw [HSN.out]; simp⟩
     go_wp2_with fail
     refine (HSA.out _ HBW.out).mono ?_
     rintro e w8 ⟨rfl, hd8⟩
     have hb8 : Below wc.heap.size wc w8 := hd8.below
     have H6w8 := Aside0.mk ((hb8.block _ (blk_lt H6.out)).trans H6.out)
     have H7w8 := Aside0.mk ((hb8.block _ (blk_lt H7.out)).trans H7.out)
     have HBW8 : Aside0 (Below wr.heap.size wr w8) := ⟨HBW.out.trans (hb8.mono HBW.out.size)⟩
     have HBN8 : Aside0 (Below N w w8) := ⟨HBN.out.trans (hb8.mono (Nat.le_trans HNW.out HBW.out.size))⟩
     have a0 : w8.cell? ⟨b6, 0, none⟩ = some (.int .i64 x.f0) := blk_cell H6w8.out 0
     have a1 : w8.cell? ⟨b6, 1, none⟩ = some (.int .i64 x.f1) := blk_cell H6w8.out 1
     have a2 : w8.cell? ⟨b6, 2, none⟩ = some (.string x.f2) := blk_cell H6w8.out 2
     have a3 : w8.cell? ⟨b6, 3, none⟩ = some (.string x.f3) := blk_cell H6w8.out 3
     have a4 : w8.cell? ⟨b6, 4, none⟩ = some (.string x.f4) := blk_cell H6w8.out 4
     have a5 : w8.cell? ⟨b6, 5, none⟩ = some (.slice A5 m5 e5) := blk_cell H6w8.out 5
     have a6 : w8.cell? ⟨b6, 6, none⟩ = some (.slice A6 m6 e6) := blk_cell H6w8.out 6
     have v0 : w8.cell? ⟨b7, 0, none⟩ = some (.int .i64 y.f0) := blk_cell H7w8.out 0
     have v1 : w8.cell? ⟨b7, 1, none⟩ = some (.int .i64 y.f1) := blk_cell H7w8.out 1
     have v2 : w8.cell? ⟨b7, 2, none⟩ = some (.string y.f2) := blk_cell H7w8.out 2
     have v3 : w8.cell? ⟨b7, 3, none⟩ = some (.string y.f3) := blk_cell H7w8.out 3
     have v4 : w8.cell? ⟨b7, 4, none⟩ = some (.string y.f4) := blk_cell H7w8.out 4
     have v5 : w8.cell? ⟨b7, 5, none⟩ = some (.slice B5 k5 g5) := blk_cell H7w8.out 5
     have v6 : w8.cell? ⟨b7, 6, none⟩ = some (.slice B6 k6 g6) := blk_cell H7w8.out 6
     clear hd8 hb8
     go_wp2_with fail
     go_ret
     exact ⟨by rw [HV.out]; rfl, by rw [HNN.out]; exact HBN8.out⟩
    | true =>
     go_wp2_with fail
     refine (HSA.out _ HBW.out).mono ?_
     rintro e w8 ⟨rfl, hd8⟩
     have hb8 : Below wc.heap.size wc w8 := hd8.below
     have H6w8 := Aside0.mk ((hb8.block _ (blk_lt H6.out)).trans H6.out)
     have H7w8 := Aside0.mk ((hb8.block _ (blk_lt H7.out)).trans H7.out)
     have HBW8 : Aside0 (Below wr.heap.size wr w8) := ⟨HBW.out.trans (hb8.mono HBW.out.size)⟩
     have HBN8 : Aside0 (Below N w w8) := ⟨HBN.out.trans (hb8.mono (Nat.le_trans HNW.out HBW.out.size))⟩
     have a0 : w8.cell? ⟨b6, 0, none⟩ = some (.int .i64 x.f0) := blk_cell H6w8.out 0
     have a1 : w8.cell? ⟨b6, 1, none⟩ = some (.int .i64 x.f1) := blk_cell H6w8.out 1
     have a2 : w8.cell? ⟨b6, 2, none⟩ = some (.string x.f2) := blk_cell H6w8.out 2
     have a3 : w8.cell? ⟨b6, 3, none⟩ = some (.string x.f3) := blk_cell H6w8.out 3
     have a4 : w8.cell? ⟨b6, 4, none⟩ = some (.string x.f4) := blk_cell H6w8.out 4
     have a5 : w8.cell? ⟨b6, 5, none⟩ = some (.slice A5 m5 e5) := blk_cell H6w8.out 5
     have a6 : w8.cell? ⟨b6, 6, none⟩ = some (.slice A6 m6 e6) := blk_cell H6w8.out 6
     have v0 : w8.cell? ⟨b7, 0, none⟩ = some (.int .i64 y.f0) := blk_cell H7w8.out 0
     have v1 : w8.cell? ⟨b7, 1, none⟩ = some (.int .i64 y.f1) := blk_cell H7w8.out 1
     have v2 : w8.cell? ⟨b7, 2, none⟩ = some (.string y.f2) := blk_cell H7w8.out 2
     have v3 : w8.cell? ⟨b7, 3, none⟩ = some (.string y.f3) := blk_cell H7w8.out 3
     have v4 : w8.cell? ⟨b7, 4, none⟩ = some (.string y.f4) := blk_cell H7w8.out 4
     have v5 : w8.cell? ⟨b7, 5, none⟩ = some (.slice B5 k5 g5) := blk_cell H7w8.out 5
     have v6 : w8.cell? ⟨b7, 6, none⟩ = some (.slice B6 k6 g6) := blk_cell H7w8.out 6
     clear hd8 hb8
     cases qi with
     | false =>
      have HV : Aside0 (R = 1) := ⟨by rw [HZ2.out, if_neg]; rw [HSN.out]; simp⟩
      go_wp2_with fail
      refine (HSI.out _ HBW8.out).mono ?_
      rintro e w9 ⟨rfl, hd9⟩
      have hb9 : Below w8.heap.size w8 w9 := hd9.below
      have HBN9 : Aside0 (Below N w w9) := ⟨HBN8.out.trans (hb9.mono (Nat.le_trans HNW.out HBW8.out.size))⟩
      clear hd9 hb9
      go_wp2_with fail
      go_ret
      exact ⟨by rw [HV.out]; rfl, by rw [HNN.out]; exact HBN9.out⟩
     | true =>
      have HV : Aside0 (R = alikeL (ns.drop (j + 1)) (ms.drop (j + 1))) := ⟨by rw [HZ2.out, if_pos]; rw [HSN.out]; rfl⟩
      go_wp2_with fail
      refine (HSI.out _ HBW8.out).mono ?_
      rintro e w9 ⟨rfl, hd9⟩
      have hb9 : Below w8.heap.size w8 w9 := hd9.below
      have HBN9 : Aside0 (Below N w w9) := ⟨HBN8.out.trans (hb9.mono (Nat.le_trans HNW.out HBW8.out.size))⟩
      have HB39 : Aside0 (Below wr.heap.size wr w9) := ⟨HBW8.out.trans (hb9.mono HBW8.out.size)⟩
      have HXR9 := Aside0.mk ((HB39.out.block _ (blk_lt HXR.out)).trans HXR.out)
      have HYR9 := Aside0.mk ((HB39.out.block _ (blk_lt HYR.out)).trans HYR.out)
      clear hd9 hb9
      go_wp2_with fail
      go_round
      case rel => exact ⟨j + 1, by omega, by go_num, HV, HBN9, HXR9, HYR9⟩
      case measure => simp [intOf]; omega
  ·
   obtain rfl : j = n := by omega
   have HV : Aside0 (R = 0) := ⟨by rw [HZ.out, List.drop_eq_nil_of_le (by have := HN.out; omega)]; cases ms.drop j <;> rfl⟩
   have d9 : decide ((j : Int) < (j : Int)) = false := decide_eq_false (by omega)
   go_wp2_with fail
   go_ret
   exact ⟨by rw [HV.out]; rfl, by rw [HNN.out]; exact HBR.out⟩
def fanlightlaw10_Alike.f (l0_0 : List S63) (a0_1 a0_2 : Int) (l1_0 : List S64) (a1_1 a1_2 : Int) : Option Int := some (alikeI l0_0 a0_1 a0_2 l1_0 a1_1 a1_2)
theorem fanlightlaw10_Alike.calls (A0_0 : Option Addr) (c0_0 : Nat) (l0_0 : List S63) (a0_1 a0_2 : Int) (A1_0 : Option Addr) (c1_0 : Nat) (l1_0 : List S64) (a1_1 a1_2 : Int) (r : Int) (w : World) (hr0_0 : Kd.C k63 w A0_0 l0_0.length l0_0) (hc0_0 : l0_0.length ≤ c0_0) (hr1_0 : Kd.C k64 w A1_0 l1_0.length l1_0) (hc1_0 : l1_0.length ≤ c1_0) (h : fanlightlaw10_Alike.f l0_0 a0_1 a0_2 l1_0 a1_1 a1_2 = some r) :
  Calls Try.prog 15 #[.agg #[.slice A0_0 l0_0.length c0_0, .int .i64 a0_1, .int .i64 a0_2], .agg #[.slice A1_0 l1_0.length c1_0, .int .i64 a1_1, .int .i64 a1_2]] w fun e w' => e = .returned (.int .i64 r) ∧ Below w.heap.size w w' := by
 injection h with h
 subst h
 exact alike_is A0_0 c0_0 _ l0_0 a0_1 a0_2 A1_0 c1_0 _ l1_0 a1_1 a1_2 w hr0_0 rfl hr1_0 rfl
end Go.Proofs.Ytleofbidijbahaa.D
