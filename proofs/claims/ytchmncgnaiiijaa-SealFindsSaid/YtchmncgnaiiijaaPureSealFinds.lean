/- Up to 32 bits in a row that are turned, behind the length, are told: every frame, every place, every turn. -/
import Derived.Test.YtchmncgnaiiijaaSealCrc
import Derived.Test.YtchmncgnaiiijaaS13
namespace Go.Proofs.Ytchmncgnaiiijaa.Pure
set_option linter.unusedVariables false
set_option linter.unusedSimpArgs false
open Go.RowKit Go.Proofs.Ytchmncgnaiiijaa.S Go.Proofs.YtchmncgnaiiijaaW.PrintWords Go.Proofs.YtchmncgnaiiijaaW.PrintLast SealEv SealCrc Crc
/-- What a turned frame reads as. -/
theorem get_turned (k : Int) (l : List Int) (B : List Nat) (hB : framed k l = toI B) (hk : 1 ≤ k) (hk2 : k ≤ 255) (hl : l.length ≤ 65536) (ho : octs l) (T p : Nat) (h0 : 0 < T) (h1 : T < 2 ^ 32) (hp : p + 32 ≤ 8 * B.length)
    (xs : List Nat) (hx : ∀ y ∈ xs, y < 256) (hlen : xs.length = B.length) (hv : val xs = val B ^^^ (T <<< p)) (h4 : ∀ q, q < 4 → xs.getD q 0 = B.getD q 0) : getS (toI xs) = (0, [], 0, 21) := by
  have hBl : B.length = l.length + 8 := by rw [← framed_length k l, hB, toI_length]
  have hr : ∀ q : Nat, q < 4 → rd (toI xs) (q : Int) = rd (framed k l) (q : Int) := fun q hq => by rw [hB, toI_rd, toI_rd, h4 q hq]
  have e0 := hr 0 (by decide)
  have e1 := hr 1 (by decide)
  have e2 := hr 2 (by decide)
  have e3 := hr 3 (by decide)
  obtain ⟨r0, r1, r2, r3⟩ := rd_body k l (laidL (sumOf (sealBody k l)))
  have hn : num3 (toI xs) = l.length := by
    have := num3_body (k := k) (more := laidL (sumOf (sealBody k l))) hl
    rw [← this]
    unfold num3
    rw [show (1 : Int) = ((1 : Nat) : Int) from rfl, show (2 : Int) = ((2 : Nat) : Int) from rfl, show (3 : Int) = ((3 : Nat) : Int) from rfl, e1, e2, e3]
    rfl
  have hz : ¬ rd (toI xs) 0 = 0 := by
    rw [show (0 : Int) = ((0 : Nat) : Int) from rfl, e0]
    show ¬ rd (sealBody k l ++ laidL (sumOf (sealBody k l))) 0 = 0
    rw [r0]
    omega
  have hcut : ((l.length : Int) + 4).toNat = l.length + 4 := by omega
  have hxl : (toI xs).length = l.length + 8 := by rw [toI_length, hlen, hBl]
  -- the two parts
  obtain ⟨M, hM, hMo⟩ := of_octs (body_octs (k := k) ho)
  have hMl : M.length = l.length + 4 := by rw [← toI_length, ← hM, body_length]
  have hBM : B = M ++ laidN (~~~ (M.foldl octB (BitVec.allOnes 32))).toNat := by
    apply toI_inj
    rw [← hB, toI_append, ← hM, ← laid_is, ← sumOf_is M hMo, ← hM]
    rfl
  have key := sum_tells M (xs.take (l.length + 4)) (xs.drop (l.length + 4)) T p hMo (fun x h => hx x (List.mem_of_mem_take h)) (fun x h => hx x (List.mem_of_mem_drop h)) (by rw [List.length_drop, hlen, hBl]; omega)
    (by rw [List.length_take, hlen, hBl, hMl]; omega) h0 h1 (by rw [hMl, show l.length + 4 + 4 = B.length by omega]; exact hp) (by rw [List.take_append_drop, hv, ← hBM])
  unfold getS
  rw [if_neg (by omega), if_neg hz, hn, if_neg (by omega), if_neg (by rw [hxl]; omega), hcut, toI_take, toI_drop]
  rw [if_neg]
  rw [toI_take, List.take_of_length_le (l := xs.drop (l.length + 4)) (by rw [List.length_drop, hlen, hBl]; omega)]
  exact key
theorem turn_bit (T i : Nat) (hi : i ≤ 32) : Int.tmod (shr .u32 (T : Int) (i : Int)) 2 = ((T / 2 ^ i % 2 : Nat) : Int) := by
  unfold shr
  rw [show min (i : Int).toNat IntKind.u32.bits = i by rw [Int.toNat_natCast]; exact Nat.min_eq_left hi]
  have e : (T : Int) / 2 ^ i = ((T / 2 ^ i : Nat) : Int) := by
    rw [Int.natCast_ediv]
    norm_cast
  rw [e]
  rfl
theorem turns (k : Int) (l : List Int) (B : List Nat) (hB : framed k l = toI B) (hk : 1 ≤ k) (hk2 : k ≤ 255) (hl : l.length ≤ 65536) (ho : octs l) (hBo : ∀ y ∈ B, y < 256) (T p : Nat) (h0 : 0 < T) (h1 : T < 2 ^ 32) (hp4 : 32 ≤ p) (hp : p + 32 ≤ 8 * B.length) :
    ∀ (d i : Nat) (xs : List Nat), 32 - i = d → i ≤ 32 → (∀ y ∈ xs, y < 256) → xs.length = B.length → val xs = val B ^^^ ((T % 2 ^ i) <<< p) → (∀ q, q < 4 → xs.getD q 0 = B.getD q 0) →
      Ev (fun n => fanlightlaw04_SealFinds.l0 n (p : Int) (T : Int) (toI xs) (i : Int)) true
  | 0, i, xs, hd, hi, hx, hlen, hv, h4 => by
    obtain rfl : i = 32 := by omega
    refine Ev.step (fun k => rfl) ?_
    have n1 : ¬ ((32 : Nat) : Int) < 32 := by omega
    have hBl : B.length = l.length + 8 := by rw [← framed_length k l, hB, toI_length]
    rw [Nat.mod_eq_of_lt h1] at hv
    have hg := get_turned k l B hB hk hk2 hl ho T p h0 h1 hp xs hx hlen hv h4
    have hs : seal_Get.f (toI xs) = some (getS (toI xs)) := get_is (by rw [toI_length, hlen, hBl]; omega) (toI_octs hx)
    simp only [fanlightlaw04_SealFinds.l0, if_neg n1, hs, hg, Option.bind_some, fanlightlaw04_num.f, if_true, List.length_nil]
    exact Ev.now _
  | d + 1, i, xs, hd, hi, hx, hlen, hv, h4 => by
    have HV := Aside0.mk hv
    clear hv
    have hBl : B.length = l.length + 8 := by rw [← framed_length k l, hB, toI_length]
    refine Ev.step (fun k => rfl) ?_
    have n1 : (i : Int) < 32 := by omega
    have n2 : (0 : Int) ≤ (i : Int) := by omega
    have n3 : wrap64 ((i : Int) + 1) = ((i + 1 : Nat) : Int) := by rw [wrapI] <;> omega
    have hpb : p ≤ 600000 := by omega
    have HPX := Aside0.mk hp
    obtain ⟨q, hqd⟩ : ∃ q, (p + i) / 8 = q := ⟨_, rfl⟩
    obtain ⟨j, hjd⟩ : ∃ j, (p + i) % 8 = j := ⟨_, rfl⟩
    have hqj : 8 * q + j = p + i := by rw [← hqd, ← hjd]; exact Nat.div_add_mod _ _
    have hj8 : j < 8 := by rw [← hjd]; exact Nat.mod_lt _ (by decide)
    have n5 : Int.tdiv ((p + i : Nat) : Int) 8 = (q : Int) := by rw [← hqd]; rfl
    have n7 : Int.tmod ((p + i : Nat) : Int) 8 = (j : Int) := by rw [← hjd]; rfl
    clear hqd hjd
    have hq0 : q < B.length := by omega
    have hq4 : 4 ≤ q := by omega
    have hqb : q ≤ 600000 := by omega
    clear hp
    have n4 : wrap64 ((p : Int) + (i : Int)) = ((p + i : Nat) : Int) := by
      clear hq0 hqj hBl hlen n5 n7
      rw [wrapI] <;> omega
    have n6 : wrap64 (q : Int) = (q : Int) := by
      clear hq0 hqj hBl hlen n5 n7 n4 n3
      rw [wrapI] <;> omega
    have n8 := turn_bit T i (by omega)
    have n9 : (0 : Int) ≤ (q : Int) := Int.natCast_nonneg _
    have n10 : (q : Int) < ((toI xs).length : Int) := by rw [toI_length, hlen]; exact_mod_cast hq0
    have n11 : (0 : Int) ≤ (j : Int) := Int.natCast_nonneg _
    simp only [fanlightlaw04_SealFinds.l0, if_pos n1, if_pos n2, n3, n4, n5, n6, n7, n8, if_pos n9, if_pos n10, if_pos n11]
    clear n1 n2 n3 n4 n5 n6 n7 n8 n9 n10 n11
    have hms := mod_succ T i
    rcases Nat.mod_two_eq_zero_or_one (T / 2 ^ i) with hb | hb
    · rw [hb] at hms ⊢
      rw [Nat.zero_shiftLeft, Nat.xor_zero] at hms
      simp only [if_neg (show ¬ ((0 : Nat) : Int) = 1 by decide)]
      have HMS := Aside0.mk hms
      clear hms hb
      exact turns k l B hB hk hk2 hl ho hBo T p h0 h1 hp4 HPX.out d (i + 1) xs (by omega) (by omega) hx hlen (by rw [HMS.out]; exact HV.out) h4
    · rw [hb] at hms ⊢
      simp only [if_pos (show ((1 : Nat) : Int) = 1 from rfl)]
      have HMS := Aside0.mk hms
      clear hms hb
      have hq : q < xs.length := by rw [hlen]; exact hq0
      have hy : xs.getD q 0 < 256 := by
        rw [List.getD_eq_getElem?_getD, List.getElem?_eq_getElem hq]
        exact hx _ (List.getElem_mem hq)
      have hj : 1 <<< j < 256 := by
        rw [Nat.one_shiftLeft]
        exact Nat.lt_of_lt_of_le (Nat.pow_lt_pow_right (by decide) hj8) (Nat.le_refl _)
      have hs : shl .u8 1 (j : Int) = ((1 <<< j : Nat) : Int) := by
        unfold shl
        rw [show min ((j : Int)).toNat IntKind.u8.bits = j by rw [Int.toNat_natCast]; exact Nat.min_eq_left (Nat.le_of_lt hj8), IntKind.wrap_u8]
        rw [Nat.one_shiftLeft] at hj ⊢
        have e1 : (1 : Int) * 2 ^ j = ((2 ^ j : Nat) : Int) := by rw [Int.one_mul]; norm_cast
        rw [e1]
        obtain ⟨z, hz⟩ : ∃ z, 2 ^ j = z := ⟨_, rfl⟩
        rw [hz] at hj ⊢
        clear hqj hq0 hBl hlen
        omega
      rw [hs, toI_rd, xor8 _ _ hy hj, Int.toNat_natCast, toI_set]
      refine turns k l B hB hk hk2 hl ho hBo T p h0 h1 hp4 HPX.out d (i + 1) _ (by omega) (by omega) ?_ (by rw [List.length_set]; exact hlen) ?_ ?_
      · intro y hy2
        rcases List.mem_or_eq_of_mem_set hy2 with h | rfl
        · exact hx y h
        · exact Nat.xor_lt_two_pow (n := 8) hy hj
      · rw [val_set _ _ _ hq, HV.out, HMS.out, Nat.shiftLeft_xor_distrib, ← Nat.shiftLeft_add, show 8 * q + j = i + p by omega, Nat.xor_assoc]
      · intro q' hq4'
        rw [← h4 q' hq4']
        simp only [List.getD_eq_getElem?_getD]
        rw [List.getElem?_set_ne (by omega)]
theorem SealFinds (k : Int) (l : List Int) (at_ turn : Int) (ho : octs l) (hl : l.length ≤ 140737488351232) (ha : -9223372036854775808 ≤ at_ ∧ at_ < 9223372036854775808) (ht : 0 ≤ turn ∧ turn < 4294967296) : ∃ n, fanlightlaw04_SealFinds.f n k l at_ turn = some true := by
  apply Ev.rounds
  unfold fanlightlaw04_SealFinds.f
  have hal : fanlightlaw04_alive.f = some true := rfl
  simp only [hal, Option.bind_some, if_true, of_is (show l.length < 140737488355328 by omega)]
  by_cases hk : k < 1 ∨ 255 < k
  · simp only [put_bad hk, Option.bind_some, fanlightlaw04_num.f]
    refine Ev.step (fun k => rfl) ?_
    simp only [fanlightlaw04_SealFinds.j0]
    exact Ev.now _
  · by_cases h : 65536 < l.length
    · simp only [put_long (show 1 ≤ k by omega) (by omega) h, Option.bind_some, fanlightlaw04_num.f]
      refine Ev.step (fun k => rfl) ?_
      simp only [fanlightlaw04_SealFinds.j0]
      exact Ev.now _
    · simp only [put_good (show 1 ≤ k by omega) (by omega) (show l.length ≤ 65536 by omega), Option.bind_some, fanlightlaw04_num.f, if_true]
      have hf := framed_length k l
      by_cases h0 : turn = 0
      · rw [h0]
        refine Ev.step (fun k => rfl) ?_
        simp only [fanlightlaw04_SealFinds.j0, beq_self_eq_true, if_true, Option.bind_some, fanlightlaw04_num.f]
        exact Ev.now _
      · have hb : (turn == 0) = false := beq_eq_false_iff_ne.mpr h0
        rw [hb]
        refine Ev.step (fun k => rfl) ?_
        have n1 : wrap64 (((framed k l).length : Int) - 4) = (l.length : Int) + 4 := by rw [wrapI] <;> omega
        have n2 : wrap64 (8 * ((l.length : Int) + 4)) = 8 * ((l.length : Int) + 4) := by rw [wrapI] <;> omega
        have n3 : wrap64 (8 * ((l.length : Int) + 4) - 31) = ((8 * l.length + 1 : Nat) : Int) := by rw [wrapI] <;> omega
        have n4 : ¬ (((8 * l.length + 1 : Nat) : Int) = 0) := by omega
        have n5 : ¬ ((framed k l).length : Int) < 8 := by omega
        simp only [fanlightlaw04_SealFinds.j0, Bool.false_eq_true, if_false, if_neg n5, n1, n2, n3, if_neg n4]
        obtain ⟨m, hm⟩ : ∃ m : Nat, m = 8 * l.length + 1 := ⟨_, rfl⟩
        rw [← hm]
        have b1 := Int.tmod_lt_of_pos at_ (show 0 < (m : Int) by omega)
        have b2 := Int.lt_tmod_of_pos at_ (show 0 < (m : Int) by omega)
        obtain ⟨u, hu⟩ : ∃ u, Int.tmod at_ (m : Int) = u := ⟨_, rfl⟩
        rw [hu] at b1 b2 ⊢
        have n6 : wrap64 (u + (m : Int)) = u + (m : Int) := by rw [wrapI] <;> omega
        rw [n6]
        have b3 := Int.tmod_lt_of_pos (u + (m : Int)) (show 0 < (m : Int) by omega)
        have b4 := Int.tmod_nonneg (m : Int) (show 0 ≤ u + (m : Int) by omega)
        obtain ⟨v, hv⟩ : ∃ v, Int.tmod (u + (m : Int)) (m : Int) = v := ⟨_, rfl⟩
        rw [hv] at b3 b4 ⊢
        have n7 : wrap64 (32 + v) = ((32 + v.toNat : Nat) : Int) := by rw [wrapI] <;> omega
        rw [n7]
        obtain ⟨B, hB, hBo⟩ := of_octs (framed_octs (k := k) ho)
        have hBl : B.length = l.length + 8 := by rw [← hf, hB, toI_length]
        obtain ⟨T, rfl⟩ := Int.eq_ofNat_of_zero_le ht.1
        rw [hB]
        exact turns k l B hB (by omega) (by omega) (by omega) ho hBo T (32 + v.toNat) (by omega) (by omega) (by omega) (by omega) 32 0 B (by omega) (by omega) hBo rfl (by simp [Nat.mod_one]) (fun q _ => rfl)
end Go.Proofs.Ytchmncgnaiiijaa.Pure
