import Derived.Test.YtkdaeleolomdkaaYV0
import Derived.Test.YtkdaeleolomdkaaYV1
import Derived.Test.YtkdaeleolomdkaaYV6
import Derived.Test.YtkdaeleolomdkaaYV7
import Derived.Test.YtkdaeleolomdkaaYV10
import Derived.Test.YtkdaeleolomdkaaYV12
import Derived.Test.YtkdaeleolomdkaaYV13
import Derived.Test.YtkdaeleolomdkaaYV14
import Derived.Test.YtkdaeleolomdkaaYV18
namespace Go.Proofs.Ytkdaeleolomdkaa.V
open Go.RowKit Go.Proofs.YtkdaeleolomdkaaW.PrintWords Go.Proofs.YtkdaeleolomdkaaW.PrintLast Go.Proofs.YtkdaeleolomdkaaW.PrintMore
attribute [local go_sem] max2_int min2_int max_two min_two max_three min_three max_four min_four   -- for this text's walks alone
set_option linter.unusedVariables false
set_option linter.unusedSimpArgs false
def fanlightlaw07_alive.f : Option Bool := some true
theorem or_oct64 (x y : Int) (hx : 0 ≤ x) (hx2 : x < 72057594037927936) (hy : 0 ≤ y) (hy2 : y < 256) : Go.bits .or .u64 (IntKind.u64.wrap (x * 256)) (IntKind.u64.wrap y) = x * 256 + y := by
  have w64 : ∀ n : Int, 0 ≤ n → n < 18446744073709551616 → IntKind.u64.wrap n = n := fun n h0 h1 => by
    simp [IntKind.wrap, IntKind.bits, IntKind.signed]
    omega
  rw [w64 (x * 256) (by omega) (by omega), w64 y (by omega) (by omega)]
  obtain ⟨a, rfl⟩ := Int.eq_ofNat_of_zero_le hx
  obtain ⟨b, rfl⟩ := Int.eq_ofNat_of_zero_le hy
  have e0 : ((a : Int) * 256) = ((a * 256 : Nat) : Int) := by omega
  have o64 : ∀ n : Nat, n < 18446744073709551616 → (BitVec.ofInt 64 (n : Int)).toNat = n := fun n h => by
    rw [BitVec.ofInt_natCast, BitVec.toNat_ofNat]; exact Nat.mod_eq_of_lt (by omega)
  rw [e0]
  show IntKind.u64.wrap ((BitVec.ofInt 64 ((a * 256 : Nat) : Int) ||| BitVec.ofInt 64 (b : Int)).toNat : Int) = _
  have e1 : a * 256 = a <<< 8 := by rw [Nat.shiftLeft_eq]
  rw [BitVec.toNat_or, o64 _ (by omega), o64 _ (by omega), e1, ← Nat.shiftLeft_add_eq_or_of_lt (i := 8) (by omega), Nat.shiftLeft_eq, w64 _ (by omega) (by omega)]
  omega
theorem octs8_octs (n : Int) : octs (octs8 n) := by
  intro x hx
  simp only [octs8, List.mem_cons, List.mem_nil_iff, or_false] at hx
  rcases hx with rfl | rfl | rfl | rfl | rfl | rfl | rfl | rfl <;> omega
theorem number_step (k : Nat) (x : Int) (y : List Int) (i : Nat) (b : Int) (hi : i < 8) (hy : y.length = 8) (hb : rd y i = b) (hb0 : 0 ≤ b) (hb1 : b < 256) (hx : 0 ≤ x) (hx2 : x < 72057594037927936) (r : Int) (h : snap_number.l0 k (x * 256 + b) y 8 ((i + 1 : Nat) : Int) = some r) : snap_number.l0 (k + 1) x y 8 (i : Int) = some r := by
  simp only [snap_number.l0]
  rw [if_pos (by omega), if_pos (by omega), if_pos (by omega), hb, or_oct64 x b hx hx2 hb0 hb1, show wrap64 ((i : Int) + 1) = ((i + 1 : Nat) : Int) by unfold wrap64; omega]
  exact h
theorem number_is (n : Int) (rest : List Int) (h0 : 0 ≤ n) (h1 : n ≤ 1099511627776) : snap_number.f 9 (octs8 n ++ rest) = some n := by
  unfold snap_number.f
  have hl : (octs8 n ++ rest).take 8 = octs8 n := rfl
  rw [if_pos (by simp [octs8]; omega), hl, Option.bind_some]
  show snap_number.l0 9 0 (octs8 n) 8 ((0 : Nat) : Int) = some n
  refine number_step 8 _ _ 0 (n / 72057594037927936 % 256) (by decide) rfl rfl (by omega) (by omega) (by omega) (by omega) _ ?_
  refine number_step 7 _ _ 1 (n / 281474976710656 % 256) (by decide) rfl rfl (by omega) (by omega) (by omega) (by omega) _ ?_
  refine number_step 6 _ _ 2 (n / 1099511627776 % 256) (by decide) rfl rfl (by omega) (by omega) (by omega) (by omega) _ ?_
  refine number_step 5 _ _ 3 (n / 4294967296 % 256) (by decide) rfl rfl (by omega) (by omega) (by omega) (by omega) _ ?_
  refine number_step 4 _ _ 4 (n / 16777216 % 256) (by decide) rfl rfl (by omega) (by omega) (by omega) (by omega) _ ?_
  refine number_step 3 _ _ 5 (n / 65536 % 256) (by decide) rfl rfl (by omega) (by omega) (by omega) (by omega) _ ?_
  refine number_step 2 _ _ 6 (n / 256 % 256) (by decide) rfl rfl (by omega) (by omega) (by omega) (by omega) _ ?_
  refine number_step 1 _ _ 7 (n % 256) (by decide) rfl rfl (by omega) (by omega) (by omega) (by omega) _ ?_
  simp only [snap_number.l0]
  rw [if_neg (by omega)]
  congr 1
  unfold mn wrap64
  split <;> omega
theorem max_zeros (n : Nat) (hn : n ≤ 1000000) : ∀ (d i : Nat), n - i = d → i ≤ n → Ev (fun k => slices_Max_byte_byte.l0 k (List.replicate n (0 : Int)) 0 (i : Int)) 0
  | 0, i, hd, hi => by
    refine Ev.step (fun k => rfl) ?_
    simp only [slices_Max_byte_byte.l0, List.length_replicate, if_neg (show ¬ (i : Int) < (n : Int) by omega)]
    exact Ev.now _
  | d + 1, i, hd, hi => by
    refine Ev.step (fun k => rfl) ?_
    have e : rd (List.replicate n (0 : Int)) (i : Int) = 0 := by
      unfold rd
      rw [Int.toNat_natCast, List.getD_eq_getElem?_getD, List.getElem?_replicate]
      split <;> rfl
    have e2 : mx 0 0 = 0 := by unfold mx; rfl
    have e3 : wrap64 ((i : Int) + 1) = ((i + 1 : Nat) : Int) := by unfold wrap64; omega
    simp only [slices_Max_byte_byte.l0, List.length_replicate]
    simp only [if_pos (show (i : Int) < (n : Int) by omega), if_pos (show (0 : Int) ≤ (i : Int) by omega), e, e2, e3]
    exact max_zeros n hn d (i + 1) (by omega) (by omega)
theorem max_is (n : Nat) (hn : n ≤ 1000000) (h0 : 0 < n) : Ev (fun k => slices_Max_byte_byte.f k (List.replicate n (0 : Int))) 0 := by
  unfold slices_Max_byte_byte.f
  simp only [List.length_replicate]
  simp only [if_neg (show ¬ (n : Int) < 1 by omega), if_pos (show 0 < (n : Int) by omega)]
  have e : rd (List.replicate n (0 : Int)) 0 = 0 := by
    unfold rd
    rw [List.getD_eq_getElem?_getD, List.getElem?_replicate]
    split <;> rfl
  rw [e]
  exact max_zeros n hn (n - 1) 1 (by omega) (by omega)
theorem decode_slot (e s : Int) (l : List Int) (he : 0 ≤ e) (he2 : e ≤ 1099511627776) (hs : 0 ≤ s) (hs2 : s ≤ 1099511627776) (hl : l.length ≤ 8000) (ho : octs l) : Ev (fun k => snap_Decode.f k (slotOf e s l)) (e, s, l, 0) := by
  obtain ⟨D, hD⟩ : ∃ D, snapHead e s ++ l = D := ⟨_, rfl⟩
  have hDl : D.length = l.length + 16 := by rw [← hD]; simp [snapHead, octs8]
  have hDo : octs D := by rw [← hD]; exact octs_append (octs_append (octs8_octs e) (octs8_octs s)) ho
  have hS : slotOf e s l = framed 3 D ++ List.replicate (8136 - l.length) 0 := by unfold slotOf framed; rw [hD]
  have hfl := framed_length 3 D
  have hlen : (slotOf e s l).length = 8160 := by rw [hS, List.length_append, List.length_replicate]; omega
  have hzo : octs (List.replicate (8136 - l.length) (0 : Int)) := by
    intro x hx
    have := List.eq_of_mem_replicate hx
    omega
  have hg : seal_Get.f (slotOf e s l) = some (3, D, (D.length : Int) + 8, 0) := by
    rw [get_is (by omega) (by rw [hS]; exact octs_append (framed_octs hDo) hzo), hS, getS_framed (by omega) (by omega) (by omega)]
  have hn1 : Ev (fun k => snap_number.f k D) e := by
    refine Ev.of (k := 9) (fun k => snap_number.mono D k) ?_
    have : D = octs8 e ++ (octs8 s ++ l) := by rw [← hD]; unfold snapHead; rw [List.append_assoc]
    rw [this]
    exact number_is e _ he he2
  have hd8 : D.drop 8 = octs8 s ++ l := by rw [← hD]; rfl
  have hd16 : D.drop 16 = l := by rw [← hD]; rfl
  have hn2 : Ev (fun k => snap_number.f k (octs8 s ++ l)) s := Ev.of (k := 9) (fun k => snap_number.mono _ k) (number_is s _ hs hs2)
  have hck : Ev (fun k => snap_Check.f k e s l) 0 := by
    refine Ev.of (k := 5) (fun k => snap_Check.mono e s l k) ?_
    rw [check_is]
    unfold checkOf
    rw [if_neg (by omega), if_neg (by omega)]
  have hcut : (slotOf e s l).drop ((D.length : Int) + 8).toNat = List.replicate (8136 - l.length) 0 := by
    rw [hS, show ((D.length : Int) + 8).toNat = (framed 3 D).length by omega, List.drop_left]
  have hmx : Ev (fun k => slices_Max_byte_byte.f k ([0] ++ List.replicate (8136 - l.length) 0)) 0 := by
    have : ([0] ++ List.replicate (8136 - l.length) (0 : Int)) = List.replicate (8136 - l.length + 1) 0 := rfl
    rw [this]
    exact max_is _ (by omega) (by omega)
  unfold snap_Decode.f
  have c1 : ((slotOf e s l).length : Int) = 8160 := by omega
  have c2 : ¬ (D.length : Int) < 16 := by omega
  have c3 : 8 ≤ (D.length : Int) := by omega
  have c4 : 16 ≤ (D.length : Int) := by omega
  have c5 : 0 ≤ (D.length : Int) + 8 := by omega
  have c6 : (D.length : Int) + 8 ≤ ((slotOf e s l).length : Int) := by omega
  have c7 : ([0] : List Int).length + (List.replicate (8136 - l.length) (0 : Int)).length < 140737488355328 := by simp; omega
  have hcl : bytes_Clone.f l = some l := by unfold bytes_Clone.f; rw [if_pos (by omega)]
  simp only [if_pos c1, hg, Option.bind_some, if_true, if_neg c2]
  refine Ev.bind hn1 ?_
  simp only [if_pos c3, hd8]
  refine Ev.bind hn2 ?_
  simp only [if_pos c4, hd16, hcl, Option.bind_some]
  refine Ev.bind hck ?_
  simp only [if_true, if_pos c5, if_pos c6, hcut, if_pos c7]
  refine Ev.bind hmx ?_
  simp only [if_neg (show ¬ (0 : Int) > 0 by decide)]
  exact Ev.now _
theorem C_block7 {W : World} {g : Nat} {cs : Array Value} {fr : Nat × Nat} {l : List Int} (h : W.heap[g]? = some (.cells cs 5 fr)) (hcs : cs = (l.map (Value.int .u8)).toArray) (hl : l.length ≤ 1000) : Kd.C (Kd.int .u8) W (some ⟨g, 0, none⟩) l.length l := by
  refine ⟨rfl, by show l.length ≤ maxLen; unfold maxLen; omega, fun _ => ⟨⟨g, 0, none⟩, rfl, fun j p hj => ?_⟩⟩
  refine ⟨[.int .u8 p], rfl, rfl, fun i u hu => ?_⟩
  match i, hu with
  | 0, hu =>
    cases hu
    rw [add_plain, show (j * (Kd.int .u8).sz + 0) = j from Nat.mul_one j]
    subst hcs
    simp [World.cell?, h, hj]
theorem alive_num7 (w : World) : Calls Try.prog 22 #[.int .i64 0] w fun e w' => e = .returned (.int .i64 0) ∧ w = w' := by
  go_enter Try.func22, Try.ntmps22
  go_wp2
  go_ret
  exact ⟨rfl, rfl⟩
theorem alive_slots : ∃ k, snap_Decode.f k (slotOf 4 0 []) = some (4, 0, [], 0) ∧ snap_Decode.f k (slotOf 5 0 [120]) = some (5, 0, [120], 0) := by
  obtain ⟨K1, h1⟩ := decode_slot 4 0 [] (by decide) (by decide) (by decide) (by decide) (by simp) (by intro x hx; simp at hx)
  obtain ⟨K2, h2⟩ := decode_slot 5 0 [120] (by decide) (by decide) (by decide) (by decide) (by simp) (by intro x hx; simp at hx; subst hx; omega)
  exact ⟨max K1 K2, h1 _ (Nat.le_max_left _ _), h2 _ (Nat.le_max_right _ _)⟩
theorem slot_length (e s : Int) (l : List Int) (hl : l.length ≤ 8000) : (slotOf e s l).length = 8160 := by
  unfold slotOf
  simp [sealBody, sealHead, snapHead, octs8, laidL]
  omega
set_option maxRecDepth 100000 in
set_option maxHeartbeats 4000000 in
theorem fanlightlaw07_alive.calls (r : Bool) (w : World) (h : fanlightlaw07_alive.f = some r) :
    Calls Try.prog 26 #[] w fun e w' => e = .returned (.bool r) ∧ Below w.heap.size w w' := by
  injection h with h
  subst h
  have hcv := fun W : World => Lib.run_convert_bytes_const (P := Try.prog) W 22 5 #[.int .u8 120] 1 1 Try.underlying22 Try.underlying5
  obtain ⟨k, hk1, hk2⟩ := alive_slots
  have hN : newS (4, 0, [], 0) (5, 0, [120], 0) = (5, 0, [120], 1, 0) := rfl
  have hl1 := slot_length 4 0 [] (by simp)
  have hl2 := slot_length 5 0 [120] (by simp)
  obtain ⟨X, hX⟩ : ∃ X, slotOf 4 0 [] = X := ⟨_, rfl⟩
  obtain ⟨Y, hY⟩ : ∃ Y, slotOf 5 0 [120] = Y := ⟨_, rfl⟩
  have hE1 := fun W : World => encode1 4 0 none 0 [] W (Kd.C_nil _ _) (Nat.le_refl _) rfl (by decide) (by decide) (by simp)
  have hE2 := fun (W : World) (g : Nat) (h : W.heap[g]? = some (.cells #[.int .u8 120] 5 (1, 2))) => encode1 5 0 (some ⟨g, 0, none⟩) 1 [120] W (C_block7 h rfl (by simp)) (by simp) rfl (by decide) (by decide) (by simp)
  rw [hX] at hk1 hl1 hE1
  rw [hY] at hk2 hl2 hE2
  have HE1 := Aside0.mk hE1
  have HE2 := Aside0.mk hE2
  have HK1 := Aside0.mk hk1
  have HK2 := Aside0.mk hk2
  clear hE1 hE2 hk1 hk2 hX hY
  go_enter Try.func26, Try.ntmps26
  go_wp2_with fail
  refine (HE1.out w).mono ?_
  rintro e w1 ⟨v1, rfl, ho1, hb1⟩
  obtain ⟨A1, c1, rfl⟩ := Kd.R_slice ho1
  have HO1 := Aside0.mk ho1
  have HB1 := Aside0.mk hb1
  clear ho1 hb1
  go_wp2_with fail
  refine (HE2.out _ w1.heap.size (World.alloc_heap_new w1 _)).mono ?_
  rintro e w2 ⟨v2, rfl, ho2, hb2⟩
  have HB2a := below_alloc HB1.out (.cells #[.int .u8 120] 5 (1, 2))
  have HO1' := Aside0.mk (Kd.R_below (Kd.R_alloc HO1.out (.cells #[.int .u8 120] 5 (1, 2))) hb2)
  have HO2 := Aside0.mk (Kd.R_lower ho2 HB2a.size)
  have HB2 := Aside0.mk (HB2a.trans (hb2.mono HB2a.size))
  obtain ⟨A2, c2, rfl⟩ := Kd.R_slice HO2.out
  clear ho2 hb2 HB2a HO1 HB1
  have hNew := newest1 k A1 c1 X A2 c2 Y (4, 0, [], 0) (5, 0, [120], 0) w2 (Kd.R_reads' HO1'.out).2.2 (Kd.R_reads' HO1'.out).2.1 (Kd.R_reads' HO2.out).2.2 (Kd.R_reads' HO2.out).2.1 HK1.out HK2.out
  rw [hN, hl1, hl2] at hNew
  dsimp only at hNew
  have HNew := Aside0.mk hNew
  clear hNew
  go_wp2_with fail
  refine HNew.out.mono ?_
  rintro e w3 ⟨v3, rfl, ho3, hb3⟩
  obtain ⟨A3, c3, rfl⟩ := Kd.R_slice ho3
  have HB3 := Aside0.mk (HB2.out.trans (hb3.mono HB2.out.size))
  clear ho3 hb3 HNew HO1' HO2 HB2
  go_wp2_with fail
  have hn := World.alloc_heap_new w3 (.cells #[.int .i64 5, .int .i64 0, .slice A3 1 c3] 25)
  have HB4 := Aside0.mk (below_alloc HB3.out (.cells #[.int .i64 5, .int .i64 0, .slice A3 1 c3] 25))
  obtain ⟨g, hg⟩ : ∃ g, w3.heap.size = g := ⟨_, rfl⟩
  have n0 : (w3.alloc (.cells #[.int .i64 5, .int .i64 0, .slice A3 1 c3] 25)).cell? ⟨g, 0, none⟩ = some (.int .i64 5) := by rw [← hg]; exact blk_cell hn 0
  rw [hg]
  clear hn hg HB3
  generalize w3.alloc (.cells #[.int .i64 5, .int .i64 0, .slice A3 1 c3] 25) = w4 at n0 HB4 ⊢
  refine (alive_num7 _).mono ?_
  rintro e w' ⟨rfl, rfl⟩
  go_wp2_with (go_at_call 22; refine (alive_num7 _).mono ?_; rintro e w' ⟨rfl, rfl⟩)
  go_ret
  exact ⟨rfl, HB4.out⟩
end Go.Proofs.Ytkdaeleolomdkaa.V
