/- What the print's words and the walks are, as far as this claim names them. -/
import Derived.Test.YtgmkgobapeencaaYS2
import Derived.Test.YtgmkgobapeencaaYS12
import Derived.Test.YtgmkgobapeencaaYWTab
import Derived.Test.YtgmkgobapeencaaYWLast
namespace Go.Proofs.Ytgmkgobapeencaa.S
open Go.RowKit Go.Proofs.YtgmkgobapeencaaW.PrintWords Go.Proofs.YtgmkgobapeencaaW.PrintLast Go.Proofs.YtgmkgobapeencaaW.PrintMore
attribute [local go_sem] max2_int min2_int max_two min_two max_three min_three max_four min_four   -- for this text's walks alone
set_option linter.unusedVariables false
set_option linter.unusedSimpArgs false
theorem or_oct (x y : Int) (hx : 0 ≤ x) (hx2 : x < 65536) (hy : 0 ≤ y) (hy2 : y < 256) : Go.bits .or .i64 (x * 256) y = x * 256 + y := by
 obtain ⟨a, rfl⟩ := Int.eq_ofNat_of_zero_le hx
 obtain ⟨b, rfl⟩ := Int.eq_ofNat_of_zero_le hy
 have e0 : ((a : Int) * 256) = ((a * 256 : Nat) : Int) := by omega
 have o64 : ∀ n : Nat, n < 18446744073709551616 → (BitVec.ofInt 64 (n : Int)).toNat = n := fun n h => by
  rw [BitVec.ofInt_natCast, BitVec.toNat_ofNat]; exact Nat.mod_eq_of_lt (by omega)
 rw [e0]
 show IntKind.i64.wrap ((BitVec.ofInt 64 ((a * 256 : Nat) : Int) ||| BitVec.ofInt 64 (b : Int)).toNat : Int) = _
 have e1 : a * 256 = a <<< 8 := by rw [Nat.shiftLeft_eq]
 rw [BitVec.toNat_or, o64 _ (by omega), o64 _ (by omega), e1, ← Nat.shiftLeft_add_eq_or_of_lt (i := 8) (by omega), Nat.shiftLeft_eq, i64_w]
 unfold wrap64
 omega
theorem number3 (a b c : Int) (ha : 0 ≤ a) (ha2 : a < 256) (hb : 0 ≤ b) (hb2 : b < 256) (hc : 0 ≤ c) (hc2 : c < 256) : seal_number.f 4 [a, b, c] = some (a * 65536 + b * 256 + c) := by
 have w1 : wrap64 (0 * 256) = 0 * 256 := by simp [wrap64]
 have w2 : ∀ x : Int, 0 ≤ x → x < 4294967296 → wrap64 x = x := fun x h1 h2 => by unfold wrap64; omega
 unfold seal_number.f
 simp only [seal_number.l0, rd, List.length_cons, List.length_nil]
 rw [if_pos (by decide +kernel), if_pos (by decide +kernel), if_pos (by decide +kernel)]
 rw [if_pos (by decide +kernel), if_pos (by decide +kernel), if_pos (by decide +kernel)]
 rw [if_pos (by decide +kernel), if_pos (by decide +kernel), if_pos (by decide +kernel)]
 rw [if_neg (by decide +kernel)]
 rw [show (wrap64 (0 + 1)).toNat = 1 by decide +kernel, show (wrap64 (wrap64 (0 + 1) + 1)).toNat = 2 by decide +kernel]
 show some (Go.bits .or .i64 (wrap64 (Go.bits .or .i64 (wrap64 (Go.bits .or .i64 (wrap64 (0 * 256)) (wrap64 a) * 256)) (wrap64 b) * 256)) (wrap64 c)) = _
 rw [w2 a ha (by omega), w2 b hb (by omega), w2 c hc (by omega), w1, or_oct 0 a (by omega) (by omega) ha ha2]
 rw [w2 ((0 * 256 + a) * 256) (by omega) (by omega), or_oct (0 * 256 + a) b (by omega) (by omega) hb hb2]
 rw [w2 (((0 * 256 + a) * 256 + b) * 256) (by omega) (by omega), or_oct ((0 * 256 + a) * 256 + b) c (by omega) (by omega) hc hc2]
 congr 1
 omega
def num3 (l : List Int) : Int := rd l 1 * 65536 + rd l 2 * 256 + rd l 3
def octs (l : List Int) : Prop := ∀ x ∈ l, 0 ≤ x ∧ x < 256
instance (l : List Int) : Decidable (octs l) := by unfold octs; infer_instance
theorem octs_rd {l : List Int} (h : octs l) (i : Int) : 0 ≤ rd l i ∧ rd l i < 256 := by
 unfold rd
 rw [List.getD_eq_getElem?_getD]
 cases e : l[i.toNat]? with
 | none => simp
 | some x => exact h x (List.mem_of_getElem? e)
theorem num3_lo {l : List Int} (h : octs l) : 0 ≤ num3 l ∧ num3 l < 16777216 := by
 have h1 := octs_rd h 1
 have h2 := octs_rd h 2
 have h3 := octs_rd h 3
 unfold num3
 omega
theorem drop_rd (l : List Int) (h : 4 ≤ l.length) : (l.take 4).drop 1 = [rd l 1, rd l 2, rd l 3] := by
 match l, h with
 | a :: b :: c :: d :: l, _ => rfl
theorem number_at {l : List Int} (h : octs l) (h4 : 4 ≤ l.length) : seal_number.f 4 ((l.take 4).drop 1) = some (num3 l) := by
 rw [drop_rd l h4]
 have h1 := octs_rd h 1
 have h2 := octs_rd h 2
 have h3 := octs_rd h 3
 exact number3 _ _ _ h1.1 h1.2 h2.1 h2.2 h3.1 h3.2
def getS (l : List Int) : Int × List Int × Int × Int :=
 if l.length < 8 then (0, [], 0, 8)
 else if rd l 0 = 0 then (0, [], 0, 22)
 else if 65536 < num3 l then (0, [], 0, 5)
 else if (l.length : Int) < num3 l + 8 then (0, [], 0, 8)
 else if laidL (sumOf (l.take (num3 l + 4).toNat)) = (l.drop (num3 l + 4).toNat).take 4 then (rd l 0, (l.take (num3 l + 4).toNat).drop 4, num3 l + 8, 0)
 else (0, [], 0, 21)
def seal_Get.f (l0 : List Int) : Option (Int × List Int × Int × Int) := if l0.length ≤ 140737488351232 ∧ octs l0 then some (getS l0) else none
theorem take4_rd (l : List Int) (h : 4 ≤ l.length) : l.take 4 = [rd l 0, rd l 1, rd l 2, rd l 3] := by
 match l, h with
 | a :: b :: c :: d :: l, _ => rfl
theorem load4 {w : World} {A : Addr} {T : List Int} (h : Kd.C (Kd.int .u8) w (some A) T.length T) (h4 : 4 ≤ T.length) (W : World) (hW : Below w.heap.size w W) :
  W.cell? A = some (.int .u8 (rd T 0)) ∧ W.cell? ⟨A.block, A.off + 1, none⟩ = some (.int .u8 (rd T 1)) ∧ W.cell? ⟨A.block, A.off + 2, none⟩ = some (.int .u8 (rd T 2)) ∧ W.cell? ⟨A.block, A.off + 3, none⟩ = some (.int .u8 (rd T 3)) := by
 have hx : ∀ i : Nat, i < 4 → W.cell? (A.add i) = some (.int .u8 (rd T i)) := fun i hi => by
  obtain ⟨ad', e1, hcell⟩ := Kd.at_int h i (by omega) (by omega)
  injection e1 with e1
  subst e1
  exact pw_cell_below hW hcell
 exact ⟨by simpa [Addr.add] using hx 0 (by omega), by simpa [Addr.add] using hx 1 (by omega), by simpa [Addr.add] using hx 2 (by omega), by simpa [Addr.add] using hx 3 (by omega)⟩
theorem eq4d (D : Nat) (a b c d a' b' c' d' : Int) (W : World) : (Op.equalIn (D + 1 + 1) 81 (.agg #[.int .u8 a, .int .u8 b, .int .u8 c, .int .u8 d]) (.agg #[.int .u8 a', .int .u8 b', .int .u8 c', .int .u8 d'])).run Try.prog W = .ok (a == a' && (b == b' && (c == c' && d == d'))) W := by
 have hu := Try.underlying81
 have h5 := Try.underlying5
 obtain ⟨i0, hi0, _, hsz, _⟩ := info_parts info5
 have hE : ∀ (x y : Int) (W : World), (Op.equalIn (D + 1) 5 (.int .u8 x) (.int .u8 y)).run Try.prog W = .ok (x == y) W := fun x y W => run_equalIn_int W D 5 .u8 .u8 x y h5
 have hA : ∀ W : World, (isAgg 5).run Try.prog W = .ok false W := fun W => by
  unfold isAgg
  rw [Sem.run_bind, run_underlying h5 W]
  rfl
 have hS : ∀ W : World, (sizeOf 5).run Try.prog W = .ok 1 W := fun W => by simp [sizeOf, typeInfo, hi0, hsz]
 have hP : ∀ (cs : Array Value) (i : Nat) (v : Value) (W : World), cs[i]? = some v → (part 5 cs i).run Try.prog W = .ok v W := by
  intro cs i v W h
  simp [part, hA, h, Sem.run_bind]
 generalize hD : D + 1 = D1
 rw [hD] at hE
 rw [Op.equalIn]
 simp only [Sem.run_bind, run_underlying hu, Result.andThen_ok, hS]
 rw [Std.Legacy.Range.forIn_eq_forIn_range']
 simp only [Std.Legacy.Range.size, show (4 - 0 + 1 - 1) / 1 = 4 from rfl, List.range', List.forIn_cons, List.forIn_nil, Sem.run_bind]
 rw [hP _ (0 * 1) (.int .u8 a) _ rfl, Result.andThen_ok, hP _ (0 * 1) (.int .u8 a') _ rfl, Result.andThen_ok, hE, Result.andThen_ok]
 cases a == a'
 ·
  rfl
 simp only [Bool.not_true, Bool.false_eq_true, if_false, Sem.run_pure, Result.andThen_ok, Sem.run_bind]
 rw [hP _ ((0 + 1) * 1) (.int .u8 b) _ rfl, Result.andThen_ok, hP _ ((0 + 1) * 1) (.int .u8 b') _ rfl, Result.andThen_ok, hE, Result.andThen_ok]
 cases b == b'
 ·
  rfl
 simp only [Bool.not_true, Bool.false_eq_true, if_false, Sem.run_pure, Result.andThen_ok, Sem.run_bind]
 rw [hP _ ((0 + 1 + 1) * 1) (.int .u8 c) _ rfl, Result.andThen_ok, hP _ ((0 + 1 + 1) * 1) (.int .u8 c') _ rfl, Result.andThen_ok, hE, Result.andThen_ok]
 cases c == c'
 ·
  rfl
 simp only [Bool.not_true, Bool.false_eq_true, if_false, Sem.run_pure, Result.andThen_ok, Sem.run_bind]
 rw [hP _ ((0 + 1 + 1 + 1) * 1) (.int .u8 d) _ rfl, Result.andThen_ok, hP _ ((0 + 1 + 1 + 1) * 1) (.int .u8 d') _ rfl, Result.andThen_ok, hE, Result.andThen_ok]
 cases d == d' <;> rfl
theorem eq4 (a b c d a' b' c' d' : Int) (W : World) : (Op.equalIn 10000 81 (.agg #[.int .u8 a, .int .u8 b, .int .u8 c, .int .u8 d]) (.agg #[.int .u8 a', .int .u8 b', .int .u8 c', .int .u8 d'])).run Try.prog W = .ok (a == a' && (b == b' && (c == c' && d == d'))) W := eq4d 9998 a b c d a' b' c' d' W
set_option maxRecDepth 100000 in
set_option maxHeartbeats 4000000 in
theorem get1 (ad : Addr) (c0 : Nat) (l0 : List Int) (w : World) (hr0 : Kd.C (Kd.int .u8) w (some ad) l0.length l0) (hc0 : l0.length ≤ c0) (ho : octs l0) (h8 : 8 ≤ l0.length) (hz : ¬ rd l0 0 = 0) :
  Calls Try.prog 50 #[.slice (some ad) l0.length c0] w fun e w' => ∃ v1_ : Value, e = .returned (.tuple #[.agg #[.int .i64 (getS l0).1, v1_], .int .i64 (getS l0).2.2.1, .int .i64 (getS l0).2.2.2]) ∧ Kd.R (Kd.int .u8) 5 w' w.heap.size (fun _ => True) v1_ (getS l0).2.1 ∧ Below w.heap.size w w' := by
 have hz0 : (rd l0 0 == 0) = false := beq_eq_false_iff_ne.mpr hz
 obtain ⟨ad', e1, hcell⟩ := Kd.at_int hr0 0 (by omega) (by omega)
 injection e1 with e1
 subst e1
 replace hcell : w.cell? ad = some (.int .u8 (rd l0 0)) := by simpa [Addr.add] using hcell
 obtain ⟨i0, hi0, _, hsz, _⟩ := info_parts info5
 have hcut := cut_mid (P := Try.prog) 25 5 .i64 .i64 Try.underlying25 hi0 1 hsz (some ad) l0.length c0 1 4 (by omega) (by omega) (by omega) hc0
 have hcutR := Kd.C_mid (lo := 1) (hi := 4) (c := c0) hr0 (by omega) (by omega) hc0
 have hN := number_at ho (by omega)
 have hlen3 : ((l0.take 4).drop 1).length = 3 := by simp; omega
 obtain ⟨A1, hA1⟩ : ∃ A, (if c0 = Int.toNat 1 then some ad else (some ad : Option Addr).map (·.add (Int.toNat 1 * 1))) = A := ⟨_, rfl⟩
 obtain ⟨c1, hc1⟩ : ∃ c, c0 - Int.toNat 1 = c := ⟨_, rfl⟩
 rw [hA1, hc1, show Int.toNat 4 - Int.toNat 1 = 3 from rfl] at hcut
 replace hcutR : Kd.C (Kd.int .u8) w A1 ((l0.take 4).drop 1).length ((l0.take 4).drop 1) := by rw [← hA1]; exact hcutR
 have hc13 : 3 ≤ c1 := by rw [← hc1]; show 3 ≤ c0 - 1; omega
 have HNC : ∀ W : World, Below w.heap.size w W → Calls Try.prog 56 #[.slice A1 3 c1] W fun e w' => e = .returned (.int .i64 (num3 l0)) ∧ Drawn0 W w' := by
  intro W hW
  have := seal_number.calls 4 A1 c1 _ _ W (Kd.C_below hcutR hW) (by omega) hN
  rwa [hlen3] at this
 clear hcutR hN hlen3
 have hb := num3_lo ho
 obtain ⟨n, hn⟩ : ∃ n : Nat, num3 l0 = n := Int.eq_ofNat_of_zero_le hb.1
 have HG : getS l0 = (if 65536 < (n : Int) then (0, [], 0, 5)
 else if (l0.length : Int) < n + 8 then (0, [], 0, 8)
 else if laidL (sumOf (l0.take (n + 4))) = (l0.drop (n + 4)).take 4 then (rd l0 0, (l0.take (n + 4)).drop 4, (n : Int) + 8, 0)
 else (0, [], 0, 21)) := by
  unfold getS
  rw [if_neg (by omega), if_neg hz, hn, show ((n : Int) + 4).toNat = n + 4 by omega]
 rw [hn] at HNC hb
 generalize getS l0 = R at HG ⊢
 have HG' := Lib.hid HG
 clear hn HG
 have HR := Aside0.mk hr0
 have HN := Aside0.mk HNC
 have hcellA : (w.alloc (.cells #[.int .i64 0, .slice none 0 0] 67)).cell? ad = some (.int .u8 (rd l0 0)) := pw_cell_below (below_alloc (Below.refl _ _) _) hcell
 clear hr0 HNC hA1 hc1 hsz hi0 hz
 go_enter Try.func50, Try.ntmps50
 have HB1 := Aside0.mk (below_alloc (Below.refl w.heap.size w) (.cells #[.int .i64 0, .slice none 0 0] 67))
 go_wp2_with fail
 refine (HN.out _ HB1.out).mono ?_
 rintro e w1 ⟨rfl, hd⟩
 have hblk := (hd.below.block w.heap.size (by simp)).trans (World.alloc_heap_new w (.cells #[.int .i64 0, .slice none 0 0] 67))
 have HB2 := Aside0.mk (HB1.out.trans (hd.below.mono (by simp)))
 have hww : w.heap.size < w1.heap.size := blk_lt hblk
 have y0 : w1.cell? ⟨w.heap.size, 0, none⟩ = some (.int .i64 0) := by simp [World.cell?, hblk]
 have y1 : w1.cell? ⟨w.heap.size, 1, none⟩ = some (.slice none 0 0) := by simp [World.cell?, hblk]
 have yf : ∀ i, w1.frozen? ⟨w.heap.size, i, none⟩ = false := fun i => by simp [World.frozen?, hblk]
 have HX := Aside0.mk hblk
 clear hd hblk HB1 hcellA HN
 by_cases k1 : 65536 < (n : Int)
 ·
  have hR := HG'.out
  rw [if_pos k1] at hR
  subst hR
  go_wp2_with fail
  exact bodyPost_ret (results_ctt rfl _ _ w.heap.size 67 #[.int .i64 0, .slice none 0 0] (0, 0) _ rfl (blk_put (blk_put HX.out 0 _ rfl) 1 _ rfl) Try.underlying67 rfl (by kernel_rfl)) rfl ⟨_, rfl, Kd.R_nil _ _ _ _ _, ((HB2.out.setCell (p := ⟨w.heap.size, 0, none⟩) (Nat.le_refl _) _).setCell (p := ⟨w.heap.size, 1, none⟩) (Nat.le_refl _) _)⟩
 by_cases k2 : (l0.length : Int) < n + 8
 ·
  have hR := HG'.out
  rw [if_neg k1, if_pos k2] at hR
  subst hR
  have k3 : (l0.length : Int) < 4 + n + 4 := by omega
  go_wp2_with fail
  exact bodyPost_ret (results_ctt rfl _ _ w.heap.size 67 #[.int .i64 0, .slice none 0 0] (0, 0) _ rfl (blk_put (blk_put HX.out 0 _ rfl) 1 _ rfl) Try.underlying67 rfl (by kernel_rfl)) rfl ⟨_, rfl, Kd.R_nil _ _ _ _ _, ((HB2.out.setCell (p := ⟨w.heap.size, 0, none⟩) (Nat.le_refl _) _).setCell (p := ⟨w.heap.size, 1, none⟩) (Nat.le_refl _) _)⟩
 have hR := HG'.out
 rw [if_neg k1, if_neg k2] at hR
 have HG2 := Lib.hid hR
 clear HG' hR
 have k3 : (4 : Int) + n + 4 ≤ l0.length := by omega
 obtain ⟨i0, hi0, _, hsz, _⟩ := info_parts info5
 have hS := cut_to (P := Try.prog) 25 5 .i64 Try.underlying25 hi0 (some ad) l0.length c0 (4 + n) (by omega) (by omega) hc0
 have hT := cut_from (P := Try.prog) 25 5 .i64 Try.underlying25 hi0 1 hsz (some ad) l0.length c0 (4 + n) (by omega) (by omega)
 have hM := cut_mid (P := Try.prog) 25 5 .i64 .i64 Try.underlying25 hi0 1 hsz (some ad) l0.length c0 4 (4 + n) (by omega) (by omega) (by omega) hc0
 have hRS := Kd.C_take (m := n + 4) HR.out (by omega)
 have hRT := Kd.C_drop (m := n + 4) (c := c0) HR.out (by omega) hc0
 have hRM := Kd.C_mid (lo := 4) (hi := n + 4) (c := c0) HR.out (by omega) (by omega) hc0
 have e4n : ((4 : Int) + n).toNat = n + 4 := by omega
 rw [e4n] at hS hT hM
 rw [if_neg (by omega : ¬ c0 = n + 4)] at hT hRT
 have lS : (l0.take (n + 4)).length = n + 4 := by simp; omega
 have lT : (l0.drop (n + 4)).length = l0.length - (n + 4) := by simp
 have lM : ((l0.take (n + 4)).drop 4).length = n := by simp; omega
 obtain ⟨Y, hY⟩ : ∃ Y, l0.take (n + 4) = Y := ⟨_, rfl⟩
 obtain ⟨T, hTT⟩ : ∃ T, l0.drop (n + 4) = T := ⟨_, rfl⟩
 obtain ⟨M, hMM⟩ : ∃ M, (l0.take (n + 4)).drop 4 = M := ⟨_, rfl⟩
 obtain ⟨AM, hAM⟩ : ∃ A, (if c0 = 4 then some ad else (some ad : Option Addr).map (·.add (4 * 1))) = A := ⟨_, rfl⟩
 obtain ⟨adT, hAT⟩ : ∃ A : Addr, ad.add (n + 4) = A := ⟨_, rfl⟩
 obtain ⟨cT, hcT⟩ : ∃ c, c0 - (n + 4) = c := ⟨_, rfl⟩
 obtain ⟨cM, hcM⟩ : ∃ c, c0 - 4 = c := ⟨_, rfl⟩
 have hcMM : n ≤ cM := by omega
 have hR := HG2.out
 rw [hMM, hY, hTT] at hR
 rw [hMM] at lM hRM
 rw [hY] at lS hRS
 rw [hTT] at lT hRT
 rw [show Option.map (fun x => x.add ((n + 4) * 1)) (some ad) = some adT by simp [hAT], hcT, ← lT] at hT
 replace hRT : Kd.C (Kd.int .u8) w (some adT) T.length T := by rw [← hAT]; simpa [show (Kd.int .u8).sz = 1 from rfl] using hRT
 replace hRM : Kd.C (Kd.int .u8) w AM M.length M := by rw [← hAM]; exact hRM
 rw [show n + 4 - Int.toNat 4 = n from by simp] at hM
 replace hM := fun W => (hM W).trans (by rw [show Int.toNat 4 = 4 from rfl, hAM, hcM, ← lM])
 rw [← lS] at hS
 have T4 : 4 ≤ T.length := by omega
 have HLD := Aside0.mk (load4 hRT T4)
 have hAA := fun W : World => run_arrayAt (P := Try.prog) (w := W) 81 5 4 (some adT) T.length cT Try.underlying81 (by omega)
 obtain ⟨S, hSm⟩ : ∃ S, sumOf Y = S := ⟨_, rfl⟩
 have hSum : ∀ W : World, Below w.heap.size w W → Calls Try.prog 43 #[.slice (some ad) Y.length c0] W fun e w' => e = .returned (.int .u32 S) ∧ Below W.heap.size W w' := by
  intro W hW
  rw [← hSm]
  exact sum1 (some ad) c0 Y W (Kd.C_below hRS hW) (by omega)
 have HSum := Aside0.mk hSum
 rw [take4_rd T T4, hSm, show (n : Int) + 8 = 4 + n + 4 by omega] at hR
 obtain ⟨Bq, hBq⟩ : ∃ B : Bool, (S % 256 == rd T 0 && (S / 256 % 256 == rd T 1 && (S / 65536 % 256 == rd T 2 && S / 16777216 % 256 == rd T 3))) = B := ⟨_, rfl⟩
 have hEq := fun W : World => (eq4 (S % 256) (S / 256 % 256) (S / 65536 % 256) (S / 16777216 % 256) (rd T 0) (rd T 1) (rd T 2) (rd T 3) W).trans (congrArg (fun b => Result.ok b W) hBq)
 have hIf : (laidL S = [rd T 0, rd T 1, rd T 2, rd T 3]) ↔ Bq = true := by
  rw [← hBq]
  simp [laidL]
 have hR2 : R = if Bq = true then (rd l0 0, M, 4 + (n : Int) + 4, 0) else (0, [], 0, 21) := by
  rw [hR]
  by_cases hq : laidL S = [rd T 0, rd T 1, rd T 2, rd T 3]
  ·
   rw [if_pos hq, if_pos (hIf.1 hq)]
  ·
   rw [if_neg hq, if_neg (fun h => hq (hIf.2 h))]
 have HG3 := Lib.hid hR2
 clear hIf hR2 hBq
 have HRS := Aside0.mk hRS
 have HRM := Aside0.mk hRM
 have HlS := Aside0.mk lS
 have HlM := Aside0.mk lM
 clear hSum hSm HG2 hR hRS hRT hRM lS lM lT hAT hcT hAM hcM hMM hTT hY hsz hi0 e4n
 obtain ⟨l11, l12, l13, l14⟩ := HLD.out w1 HB2.out
 go_wp2_with fail
 go_region_held3 (fun w' => w'.cell? adT = some (.int .u8 (rd T 0)) ∧ w'.cell? ⟨adT.block, adT.off + 1, none⟩ = some (.int .u8 (rd T 1)) ∧ w'.cell? ⟨adT.block, adT.off + 2, none⟩ = some (.int .u8 (rd T 2)) ∧ w'.cell? ⟨adT.block, adT.off + 3, none⟩ = some (.int .u8 (rd T 3))) (first | exact HLD.out _ HBB.out | exact HLD.out _ HBA.out | exact HLD.out _ HB2.out | go_keep) (first
  | (go_at_call 43; refine (HSum.out _ ?side1).mono ?_; (case side1 => exact below_drew1 HB2.out); rintro e wA ⟨rfl, hbA⟩; have hb3 := (below_drew1 HB2.out).trans (hbA.mono (below_size (below_drew1 HB2.out))); have HBA := Aside0.mk hb3; have HXA := Aside0.mk ((hbA.block w.heap.size (by show _ < w1.heap.size; omega)).trans HX.out); clear hbA hb3)
  | (go_at_call 42; refine (laid_calls _ _).mono ?_; rintro e wB ⟨rfl, hbB⟩; have hb4 := HBA.out.trans (hbB.mono (below_size HBA.out)); have HBB := Aside0.mk hb4; have HXB := Aside0.mk ((hbB.block w.heap.size (blk_lt HXA.out)).trans HXA.out); clear hbB hb4))
 all_goals
  have z0 := (blk_cell HXB.out 0)
  have z1 := (blk_cell HXB.out 1)
  have zf : ∀ i, wB.frozen? ⟨w.heap.size, i, none⟩ = false := fun i => by simp [World.frozen?, HXB.out]
  have zc := pw_cell_below HBB.out hcell
  clear l11 l12 l13 l14 y0 y1 yf HBA HXA hcut hS hT hAA hEq
  cases Bq
  ·
   have hR := HG3.out
   rw [if_neg (by decide)] at hR
   subst hR
   go_wp2_with fail
   exact bodyPost_ret (results_ctt rfl _ _ w.heap.size 67 #[.int .i64 0, .slice none 0 0] (0, 0) _ rfl (blk_put (blk_put HXB.out 0 _ rfl) 1 _ rfl) Try.underlying67 rfl (by kernel_rfl)) rfl ⟨_, rfl, Kd.R_nil _ _ _ _ _, ((HBB.out.setCell (p := ⟨w.heap.size, 0, none⟩) (Nat.le_refl _) _).setCell (p := ⟨w.heap.size, 1, none⟩) (Nat.le_refl _) _)⟩
  ·
   have hR := HG3.out
   rw [if_pos rfl] at hR
   subst hR
   obtain ⟨oc1, oc2⟩ := octs_rd ho 0
   have h0l : (0 : Int) < (l0.length : Int) := by omega
   have h0n : 0 < l0.length := by omega
   have h0e : l0 ≠ [] := fun h => by rw [h] at h0n; exact absurd h0n (by decide)
   have hwr : IntKind.i64.wrap (rd l0 0) = rd l0 0 := by rw [i64_w]; unfold wrap64; omega
   have hwn : IntKind.i64.wrap (4 + (n : Int) + 4) = 4 + (n : Int) + 4 := by rw [i64_w]; unfold wrap64; omega
   go_wp2_with fail
   go_region_held3 (fun w' => w'.cell? ad = some (.int .u8 (rd l0 0))) (first | exact pw_cell_below HBC.out hcell | exact zc | exact pw_cell_below ((HBC.out.setCell (p := ⟨w.heap.size, 0, none⟩) (Nat.le_refl _) _).setCell (p := ⟨w.heap.size, 1, none⟩) (Nat.le_refl _) _) hcell | go_keep) ((go_at_call 37; refine (bytes_Clone.calls AM cM M M _ ?side1 ?side2 ?side3).mono ?_; (case side1 => exact Kd.C_below HRM.out (below_drew1 HBB.out)); (case side2 => have := HlM.out; omega); (case side3 => exact if_pos (by have := HlM.out; omega)); rintro e wC ⟨vC, rfl, hoC, hbC⟩; obtain ⟨AC, cC, rfl⟩ := Kd.R_slice hoC; have HOC := Aside0.mk (Kd.R_lower hoC (below_size (below_drew1 HBB.out))); have hb5 := (below_drew1 HBB.out).trans (hbC.mono (below_size (below_drew1 HBB.out))); have HBC := Aside0.mk hb5; have HXC := Aside0.mk ((hbC.block w.heap.size (by show _ < wB.heap.size; exact blk_lt HXB.out)).trans HXB.out); have z0' := (blk_cell HXC.out 0); have z1' := (blk_cell HXC.out 1); have zf' : ∀ i, wC.frozen? ⟨w.heap.size, i, none⟩ = false := (fun i => by simp [World.frozen?, HXC.out]); clear hoC hbC hb5))
   all_goals
    go_wp2_with fail
    exact bodyPost_ret (results_ctt rfl _ _ w.heap.size 67 #[.int .i64 (rd l0 0), .slice AC M.length cC] (0, 0) _ rfl (blk_put (blk_put HXC.out 0 _ rfl) 1 _ rfl) Try.underlying67 rfl (by kernel_rfl)) rfl ⟨_, rfl, Kd.R_set (Kd.R_set HOC.out HXC.out (by decide) 0 _) (blk_put HXC.out 0 _ rfl) (by decide) 1 _, ((HBC.out.setCell (p := ⟨w.heap.size, 0, none⟩) (Nat.le_refl _) _).setCell (p := ⟨w.heap.size, 1, none⟩) (Nat.le_refl _) _)⟩
theorem seal_Get.calls (A0 : Option Addr) (c0 : Nat) (l0 : List Int) (r1 : Int) (r2 : List Int) (r3 r4 : Int) (w : World) (hr0 : Kd.C (Kd.int .u8) w A0 l0.length l0) (hc0 : l0.length ≤ c0) (h : seal_Get.f l0 = some (r1, r2, r3, r4)) :
  Calls Try.prog 50 #[.slice A0 l0.length c0] w fun e w' => ∃ v1_ : Value, e = .returned (.tuple #[.agg #[.int .i64 r1, v1_], .int .i64 r3, .int .i64 r4]) ∧ Kd.R (Kd.int .u8) 5 w' w.heap.size (fun _ => True) v1_ r2 ∧ Below w.heap.size w w' := by
 unfold seal_Get.f at h
 split at h
 case isFalse => cases h
 rename_i hlo
 injection h with h
 have hn := World.alloc_heap_new w (.cells #[.int .i64 0, .slice none 0 0] 67)
 have HB := Aside0.mk (below_alloc (Below.refl w.heap.size w) (.cells #[.int .i64 0, .slice none 0 0] 67))
 by_cases h8 : l0.length < 8
 ·
  have hg : getS l0 = (0, [], 0, 8) := if_pos h8
  rw [hg] at h
  injection h with e1 h
  injection h with e2 h
  injection h with e3 e4
  subst e1 e2 e3 e4
  have HN := Aside0.mk hn
  clear hr0 hc0 hn
  have hd : (l0.length : Int) < 8 := by omega
  go_enter Try.func50, Try.ntmps50
  go_wp2_with fail
  exact bodyPost_ret (results_ctt rfl _ _ w.heap.size 67 #[.int .i64 0, .slice none 0 0] (0, 0) _ rfl HN.out Try.underlying67 rfl (by kernel_rfl)) rfl ⟨_, rfl, Kd.R_nil _ _ _ _ _, HB.out⟩
 obtain ⟨ad, e1, hcell⟩ := Kd.at_int hr0 0 (by omega) (by omega)
 subst e1
 by_cases hz : rd l0 0 = 0
 ·
  have hg : getS l0 = (0, [], 0, 22) := by
   unfold getS
   rw [if_neg h8, if_pos hz]
  rw [hg] at h
  injection h with e1 h
  injection h with e2 h
  injection h with e3 e4
  subst e1 e2 e3 e4
  rw [hz] at hcell
  replace hcell : w.cell? ad = some (.int .u8 0) := by simpa [Addr.add] using hcell
  have hcellA : (w.alloc (.cells #[.int .i64 0, .slice none 0 0] 67)).cell? ad = some (.int .u8 0) := pw_cell_below HB.out hcell
  have HN := Aside0.mk hn
  clear hr0 hc0 hn
  have hd : ¬ (l0.length : Int) < 8 := by omega
  have hd2 : (0 : Int) < l0.length := by omega
  go_enter Try.func50, Try.ntmps50
  go_wp2_with fail
  exact bodyPost_ret (results_ctt rfl _ _ w.heap.size 67 #[.int .i64 0, .slice none 0 0] (0, 0) _ rfl HN.out Try.underlying67 rfl (by kernel_rfl)) rfl ⟨_, rfl, Kd.R_nil _ _ _ _ _, HB.out⟩
 ·
  have := get1 ad c0 l0 w hr0 hc0 hlo.2 (by omega) hz
  rw [h] at this
  exact this
theorem get_is {l : List Int} (h : l.length ≤ 140737488351232) (ho : octs l) : seal_Get.f l = some (getS l) := by
 unfold seal_Get.f
 rw [if_pos ⟨h, ho⟩]
end Go.Proofs.Ytgmkgobapeencaa.S
namespace Go.Proofs.YtgmkgobapeencaaW.PrintWords
open Go.RowKit
theorem bB {g : Nat} {o : Obj} {w w1 w2 : World} (H : Aside0 (w.heap[g]? = some o)) (hb : Below w1.heap.size w1 w2) (h : Below w.heap.size w w1 := by (with_reducible repeat (first | exact Below.refl _ _ | apply below_alloc | apply pw_below_drewN | apply below_drew1))) : Aside0 (w2.heap[g]? = some o) := ⟨blk_below (blk_below H.out h) hb⟩
theorem nL {g gx : Nat} {o : Obj} {w w1 : World} (hg : gx = w1.heap.size) (H : Aside0 (w.heap[g]? = some o)) (h : Below w.heap.size w w1 := by (with_reducible repeat (first | exact Below.refl _ _ | apply below_alloc | apply pw_below_drewN | apply below_drew1))) : Aside0 (g ≠ gx) := ⟨by rw [hg]; exact Nat.ne_of_lt (blk_lt (blk_below H.out h))⟩
theorem nG {g gx : Nat} {o : Obj} {w w1 : World} (hg : gx = w1.heap.size) (H : Aside0 (w.heap[g]? = some o)) (h : Below w.heap.size w w1 := by (with_reducible repeat (first | exact Below.refl _ _ | apply below_alloc | apply pw_below_drewN | apply below_drew1))) : Aside0 (gx ≠ g) := ⟨by rw [hg]; exact Nat.ne_of_gt (blk_lt (blk_below H.out h))⟩
theorem Kd.cC {α : Type} {d : Kd α} {n : Nat} {w W : World} {xs : List α} {A : Option Addr} (H : Aside0 (d.C w A n xs)) (hb : Below w.heap.size w W := by (with_reducible repeat (first | exact Below.refl _ _ | apply below_alloc | apply pw_below_drewN | apply below_drew1))) : d.C W A n xs := Kd.C_below H.out hb
theorem bC {g : Nat} {w : World} {cs : Array Value} {t : TypeId} (H : Aside0 (w.heap[g]? = some (.cells cs t (0, 0)))) (i : Nat) (v : Value) (h : cs[i]? = some v := by rfl) : w.cell? ⟨g, i, none⟩ = some v := (blk_cell H.out i).trans h
theorem rS {α : Type} {a b : α} (h : a = b := by first | rfl | (simp; done) | (simp [*]; done)) : a = b := h
theorem nS {p : Prop} (h : p := by first | exact Kd.S_nil _ _ _ _ _ | exact Kd.N_nil _ _ _ _ _ | exact Kd.V_nil _ _ _ _ _ | exact Kd.Q_nil _ _ _ _ _ | exact Kd.R_nil _ _ _ _ _) : p := h
end Go.Proofs.YtgmkgobapeencaaW.PrintWords
namespace Go.Proofs.YtgmkgobapeencaaW.PrintLast
open Go.Proofs.YtgmkgobapeencaaW.PrintWords (Aside0)
section
variable {P : Program} {ops : Array Oper} {Q : Exit → Act → World → Prop} {S : World → Prop} {ds : List Nat} {T : Bool × List (List Nat × List Nat)} {B : List Nat}
theorem pP {oi : Oper} {v : Value} {fuel : Nat} {l : Array Bool} {a a' : Act} {w : World} (i : Nat) (N : Tmp) (l' : Array Bool) (HT : Aside0 (rtab .any ops = T)) (hi : ops[i]? = some oi := by rfl) (hN : oi.dst = some N := by rfl) (hc : anyT T l.toList l'.toList i = true := by kernel_rfl)
  (hQ : ∀ c a w, Q (.panic c) (a.put oi.dst v) w → Q (.panic c) a w := by exact fun _ _ _ h => h) (hy : Yields P ops oi v a := by (refine Or.inl ⟨by rfl, ?_⟩; intro w'; go_simp; with_reducible rfl)) (ha : a.put (some N) v = a' := by (simp only [Act.put, List.setIfInBounds_toArray, List.set_cons_zero, List.set_cons_succ, i64_w, i32_w]; rfl))
  (h : wpAnyLast P .any ops Q S ds fuel l' a' w) : wpAnyLast P .any ops Q S ds (fuel + 1) l a w := pure_ l' hi hN (any_of HT.out hc) hQ hy ha h
theorem tP {oi : Oper} {v : Value} {fuel : Nat} {l : Array Bool} {a a' : Act} {w : World} (i : Nat) (N : Tmp) (l' : Array Bool) (HT : Aside0 (rtab .any ops = T)) (HW : Aside0 (waitsOk T.2 B = true)) (hS : S w) (hi : ops[i]? = some oi := by rfl) (hN : oi.dst = some N := by rfl) (hy : YieldsIf P ops S oi v a) (hc : takeW T B ds l.toList l'.toList i = true := by kernel_rfl)
  (hQ : ∀ c a w, Q (.panic c) (a.put oi.dst v) w → Q (.panic c) a w := by exact fun _ _ _ h => h) (ha : a.put (some N) v = a' := by (simp only [Act.put, List.setIfInBounds_toArray, List.set_cons_zero, List.set_cons_succ, i64_w, i32_w]; rfl))
  (h : wpAnyLast P .any ops Q S ds fuel l' a' w) : wpAnyLast P .any ops Q S ds (fuel + 1) l a w := take_ l' hi hN (take_ofW HT.out HW.out hc) hQ hy hS ha h
theorem gL {rest : List Oper} {oi : Oper} {a : Act} {w : World} (N : Tmp) {f : FuncId} {fn : Func} {sa : Array Operand} {ts : Array TypeId} (hf : P.funcs[f]? = some fn) (args : Array Value) (hd : oi.dst = some N := by rfl) (hg : oi.guard = none := by rfl) (hname : (fn.name == "runtime.NumGoroutine") = false := by kernel_rfl) (hb : fn.body.isSome = true := by rfl)
  (hop : oi.op = .call { callee := .value (.func f), args := sa, argTypes := ts } := by rfl) (hargs : sa.map a.eval = args := by ((try simp only [List.map_toArray, List.map_cons, List.map_nil]); first | done | rfl | (simp only [List.length_drop, List.length_take]; rfl)))
  (h : Calls P f args w fun e w' => ∃ v, e = .returned v ∧ wpList P ops Q rest (a.put (some N) v) w') : wpList P ops Q (oi :: rest) a w := goesL_ (some N) hd hg hf hname hb args hop hargs h
theorem uP {a b : Act} (h : a = b := by (simp only [Act.put, List.setIfInBounds_toArray, List.set_cons_zero, List.set_cons_succ, i64_w, i32_w]; rfl)) : a = b := h
end
end Go.Proofs.YtgmkgobapeencaaW.PrintLast
