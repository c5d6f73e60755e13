import Derived.Test.YtleofbidijbahaaYD0
namespace Go.Proofs.Ytleofbidijbahaa.D
open Go.RowKit Go.Proofs.YtleofbidijbahaaW.PrintWords Go.Proofs.YtleofbidijbahaaW.PrintLast Go.Proofs.YtleofbidijbahaaW.PrintMore
attribute [local go_sem] max2_int min2_int max_two min_two max_three min_three max_four min_four   -- for this text's walks alone
set_option linter.unusedVariables false
set_option linter.unusedSimpArgs false
def ltB (a b : ByteArray) : Bool := Op.bytesLess a.toList b.toList
theorem bytesLess_irr : ∀ (x : List UInt8), Op.bytesLess x x = false
 | [] => rfl
 | a :: r => by simp [Op.bytesLess, bytesLess_irr r]
theorem bytesLess_dec : ∀ (x y : List UInt8), Op.bytesLess x y = decide (x < y)
 | [], [] => by simp [Op.bytesLess]
 | [], b :: s => by simp [Op.bytesLess]
 | a :: r, [] => by simp [Op.bytesLess]
 | a :: r, b :: s => by
  have ih := bytesLess_dec r s
  unfold Op.bytesLess
  rw [ih, Bool.eq_iff_iff]
  simp [List.cons_lt_cons_iff]
theorem ltB_trans {a b c : ByteArray} (h1 : ltB a b = true) (h2 : ltB b c = true) : ltB a c = true := by
 unfold ltB at *
 rw [bytesLess_dec, decide_eq_true_eq] at *
 exact List.lt_trans h1 h2
theorem ltB_irr (a : ByteArray) : ltB a a = false := bytesLess_irr _
theorem ltB_total {a b : ByteArray} (h1 : ltB a b = false) (h2 : a.toList ≠ b.toList) : ltB b a = true := by
 have h := bytes_leq a.toList b.toList
 have h3 : (a.toList == b.toList) = false := beq_eq_false_iff_ne.2 h2
 unfold ltB at *
 rw [h1, h3] at h
 cases hb : Op.bytesLess b.toList a.toList with
 | true => rfl
 | false => rw [hb] at h; cases h
def cmpS (a b : ByteArray) : Int := if ltB a b then -1 else if a.toList = b.toList then 0 else 1
theorem cmpS_lt (a b : ByteArray) : (cmpS a b < 0) ↔ ltB a b = true := by
 unfold cmpS
 split
 ·
  simp_all
 ·
  split <;> simp_all
theorem cmpS_eq (a b : ByteArray) : (cmpS a b = 0) ↔ a.toList = b.toList := by
 unfold cmpS
 split
 ·
  rename_i h
  constructor
  ·
   intro h2; cases h2
  ·
   intro h2
   unfold ltB at h
   rw [h2, bytesLess_irr] at h
   cases h
 ·
  split <;> simp_all
theorem nanS_is (a : ByteArray) (W : World) : Calls Try.prog 128 #[.string a] W fun e w' => e = .returned (.bool false) ∧ W = w' := by
 go_enter Try.func128, Try.ntmps128
 go_wp2_with fail
 go_ret
 exact ⟨by simp, rfl⟩
theorem cmpS_is (a b : ByteArray) (W : World) : Calls Try.prog 115 #[.string a, .string b] W fun e w' => e = .returned (.int .i64 (cmpS a b)) ∧ W = w' := by
 have H1 := Aside0.mk (nanS_is a W)
 have H2 := Aside0.mk (nanS_is b W)
 obtain ⟨R, hR⟩ : ∃ R, cmpS a b = R := ⟨_, rfl⟩
 rw [hR]
 unfold cmpS ltB at hR
 have HR := Lib.hid hR
 clear hR
 go_enter Try.func115, Try.ntmps115
 go_wp2_with fail
 refine H1.out.mono ?_
 rintro e w2 ⟨rfl, rfl⟩
 go_wp2_with fail
 refine H2.out.mono ?_
 rintro e w2 ⟨rfl, rfl⟩
 cases h1 : Op.bytesLess a.toList b.toList with
 | true =>
  have HV : Aside0 (R = -1) := ⟨by rw [← HR.out, if_pos h1]⟩
  go_wp2_with fail
  go_ret
  exact ⟨by rw [HV.out]; rfl, rfl⟩
 | false =>
  by_cases h2 : a.toList = b.toList
  ·
   have h3 : (a.toList == b.toList) = true := beq_iff_eq.2 h2
   have HV : Aside0 (R = 0) := ⟨by rw [← HR.out, if_neg (by rw [h1]; decide), if_pos h2]⟩
   clear h2
   go_wp2_with fail
   go_ret
   exact ⟨by rw [HV.out]; rfl, rfl⟩
  ·
   have h3 : (a.toList == b.toList) = false := beq_eq_false_iff_ne.2 h2
   have HV : Aside0 (R = 1) := ⟨by rw [← HR.out, if_neg (by rw [h1]; decide), if_neg h2]⟩
   clear h2
   go_wp2_with fail
   go_ret
   exact ⟨by rw [HV.out]; rfl, rfl⟩
theorem attr1_is (x : S68) (s : ByteArray) (W : World) : Calls Try.prog 114 #[.agg #[.string x.f0, .string x.f1], .string s] W fun e w' => e = .returned (.int .i64 (cmpS x.f0 s)) ∧ Below W.heap.size W w' := by
 obtain ⟨W1, hW1⟩ : ∃ W1, W.alloc (.cells #[.string x.f0, .string x.f1] 68) = W1 := ⟨_, rfl⟩
 have hb : Below W.heap.size W W1 := by rw [← hW1]; exact below_alloc (Below.refl _ _) _
 have hx : W1.heap[W.heap.size]? = some (.cells #[.string x.f0, .string x.f1] 68 (0, 0)) := by rw [← hW1]; exact World.alloc_heap_new W _
 have y0 : W1.cell? ⟨W.heap.size, 0, none⟩ = some (.string x.f0) := blk_cell hx 0
 have HB := Aside0.mk hb
 have HC := Aside0.mk (cmpS_is x.f0 s W1)
 clear hb hx
 go_enter Try.func114, Try.ntmps114
 go_wp2_with fail
 refine HC.out.mono ?_
 rintro e w2 ⟨rfl, rfl⟩
 go_wp2_with fail
 go_ret
 exact ⟨rfl, HB.out⟩
def RisesA (l : List S68) : Prop := ∀ (i j : Nat) (hi : i < l.length) (hj : j < l.length), i < j → ltB l[i].f0 l[j].f0 = true
def lowA (l : List S68) (id : ByteArray) : Nat := l.countP fun x => ltB x.f0 id
def hasA (l : List S68) (id : ByteArray) : Bool := decide (lowA l id < l.length) && decide ((rd_T68 l (lowA l id : Int)).f0.toList = id.toList)
theorem lowA_at : ∀ (l : List S68) (id : ByteArray) (i : Nat), i ≤ l.length → (∀ (t : Nat) (h : t < l.length), t < i → ltB l[t].f0 id = true) → (∀ (t : Nat) (h : t < l.length), i ≤ t → ltB l[t].f0 id = false) → lowA l id = i
 | [], id, i, hi, _, _ => by
  simp at hi
  subst hi
  rfl
 | a :: r, id, 0, hi, _, h2 => by
  unfold lowA
  rw [List.countP_eq_zero]
  intro x hx
  obtain ⟨t, ht, rfl⟩ := List.getElem_of_mem hx
  have := h2 t ht (Nat.zero_le _)
  rw [this]
  decide
 | a :: r, id, i + 1, hi, h1, h2 => by
  have ha : ltB a.f0 id = true := by simpa using h1 0 (Nat.succ_pos _) (Nat.succ_pos _)
  have h := lowA_at r id i (by simpa using hi) (fun t ht hti => h1 (t + 1) (Nat.succ_lt_succ ht) (by omega)) (fun t ht hti => h2 (t + 1) (Nat.succ_lt_succ ht) (by omega))
  unfold lowA at h ⊢
  simp only [List.countP_cons, ha, if_true, h]
theorem rdA_lt {l : List S68} {i : Nat} (h : i < l.length) : rd_T68 l (i : Int) = l[i] := by
 unfold rd_T68
 rw [Int.toNat_natCast, List.getD_eq_getElem?_getD, List.getElem?_eq_getElem h, Option.getD_some]
set_option maxRecDepth 100000 in
set_option maxHeartbeats 4000000 in
theorem bsfA_is (l : List S68) (A : Option Addr) (c n : Nat) (id : ByteArray) (w : World) (hC : Kd.C k68 w A n l) (hn : l.length = n) (hl : n ≤ 100000) (hs : RisesA l) :
  Calls Try.prog 113 #[.slice A n c, .string id, .func (.func 114) #[] #[]] w fun e w' => e = .returned (.tuple #[.int .i64 (lowA l id : Int), .bool (hasA l id)]) ∧ Below w.heap.size w w' := by
 unfold hasA
 rw [hn]
 have HN := Lib.hid hn
 have HC := Aside0.mk hC
 have HS := Aside0.mk hs
 have HI : Aside0 (∀ (t : Nat) (h : t < l.length), t < 0 → ltB l[t].f0 id = true) := ⟨fun t h h0 => by omega⟩
 have HJ : Aside0 (∀ (t : Nat) (h : t < l.length), n ≤ t → ltB l[t].f0 id = false) := ⟨fun t h h0 => by have := HN.out; omega⟩
 obtain ⟨L, hL⟩ : ∃ L, lowA l id = L := ⟨_, rfl⟩
 rw [hL]
 have HLL := Lib.hid hL
 clear hC hs hn hL
 go_enter Try.func113, Try.ntmps113
 go_wp2_with fail
 go_loopw [9, 10] (fun vi vj wr => ∃ i j : Nat, i ≤ j ∧ j ≤ n ∧ vi = .int .i64 i ∧ vj = .int .i64 j ∧ Aside0 (∀ (t : Nat) (h : t < l.length), t < i → ltB l[t].f0 id = true) ∧ Aside0 (∀ (t : Nat) (h : t < l.length), j ≤ t → ltB l[t].f0 id = false) ∧ Aside0 (Below w.heap.size w wr)) (fun vi vj _ => (intOf vj).toNat - (intOf vi).toNat)
 case atStart => exact ⟨0, n, by omega, by omega, rfl, rfl, HI, HJ, ⟨Below.refl _ _⟩⟩
 case round =>
  obtain ⟨i, j, hij, hjn, rfl, rfl, HI, HJ, HBR⟩ := hrel
  by_cases hlt : i < j
  ·
   obtain ⟨h, hh⟩ : ∃ h : Nat, (i + j) / 2 = h := ⟨_, rfl⟩
   have h1 : i ≤ h := by omega
   have h2 : h < j := by omega
   have hjl : h < l.length := by have := HN.out; omega
   obtain ⟨ad, rfl, e0, e1⟩ := at_T68 (Kd.C_below HC.out HBR.out) (h : Int) (by omega) (by have := HN.out; omega)
   rw [rdA_lt hjl, Int.toNat_natCast] at e0 e1
   have hup : ltB l[h].f0 id = true → ∀ (t : Nat) (ht : t < l.length), t < h + 1 → ltB l[t].f0 id = true := fun hx t ht hth => by
    rcases Nat.lt_or_ge t h with hq | hq
    ·
     exact ltB_trans (HS.out t h ht hjl hq) hx
    ·
     obtain rfl : t = h := by omega
     exact hx
   have hdn : ltB l[h].f0 id = false → ∀ (t : Nat) (ht : t < l.length), h ≤ t → ltB l[t].f0 id = false := fun hx t ht hth => by
    rcases Nat.lt_or_ge h t with hq | hq
    ·
     cases hb : ltB l[t].f0 id with
     | false => rfl
     | true => rw [ltB_trans (HS.out h t hjl ht hq) hb] at hx; cases hx
    ·
     obtain rfl : t = h := by omega
     exact hx
   obtain ⟨x, hxe⟩ : ∃ x, l[h] = x := ⟨_, rfl⟩
   rw [hxe] at e0 e1 hup hdn
   have hcall := attr1_is x id wr
   obtain ⟨q, hq⟩ : ∃ q, cmpS x.f0 id = q := ⟨_, rfl⟩
   rw [hq] at hcall
   have hqlt : (q < 0) ↔ ltB x.f0 id = true := by rw [← hq]; exact cmpS_lt _ _
   have hw1 : IntKind.i64.wrap ((i : Int) + (j : Int)) = ((i + j : Nat) : Int) := by rw [i64_w]; unfold wrap64; omega
   have HW1 := Lib.hid hw1
   have HCALL := Aside0.mk hcall
   have HUP := Aside0.mk hup
   have HDN := Aside0.mk hdn
   have HQ := Aside0.mk hqlt
   have hh2 : ((i : Int) + (j : Int)) / 2 = (h : Int) := by omega
   have HH := Lib.hid hh2
   clear hcall hup hdn hxe hq hqlt hh2
   go_wp2_with fail
   refine HCALL.out.mono ?_
   rintro e w5 ⟨rfl, hb5⟩
   have HB5 := Aside0.mk (HBR.out.trans (hb5.mono HBR.out.size))
   clear hb5 e0 e1 HCALL
   by_cases hq0 : q < 0
   ·
    have d1 : decide (q < 0) = true := decide_eq_true hq0
    have HIN := Aside0.mk (HUP.out (HQ.out.1 hq0))
    clear HUP HDN
    go_wp2_with fail
    exact ⟨⟨h + 1, j, by omega, by omega, congrArg (Value.int .i64) (by rw [HH.out]; omega), rfl, HIN, HJ, HB5⟩, by have := HH.out; simp only [intOf]; omega⟩
   ·
    have d1 : decide (q < 0) = false := decide_eq_false hq0
    have HJN := Aside0.mk (HDN.out (by
     cases hb : ltB x.f0 id with
     | false => rfl
     | true => exact absurd (HQ.out.2 hb) hq0))
    clear HUP HDN
    go_wp2_with fail
    exact ⟨⟨i, h, by omega, by omega, rfl, congrArg (Value.int .i64) (by rw [HH.out]), HI, HJN, HB5⟩, by have := HH.out; simp only [intOf]; omega⟩
  ·
   obtain rfl : i = j := by omega
   have hlow : i = L := (HLL.out.symm.trans (lowA_at l id i (by have := HN.out; omega) HI.out (fun t ht hti => HJ.out t ht hti))).symm
   clear HLL
   subst hlow
   by_cases hin : i < n
   ·
    have d0 : decide (i < n) = true := decide_eq_true hin
    obtain ⟨ad, rfl, e0, e1⟩ := at_T68 (Kd.C_below HC.out HBR.out) (i : Int) (by omega) (by omega)
    rw [Int.toNat_natCast] at e0 e1
    obtain ⟨x, hxe⟩ : ∃ x, rd_T68 l (i : Int) = x := ⟨_, rfl⟩
    have HXE := Lib.hid hxe
    rw [hxe] at e0 e1
    have hcall := attr1_is x id wr
    obtain ⟨q, hq⟩ : ∃ q, cmpS x.f0 id = q := ⟨_, rfl⟩
    rw [hq] at hcall
    have hqe : (q == 0) = decide (x.f0.toList = id.toList) := by rw [Bool.eq_iff_iff, beq_iff_eq, decide_eq_true_eq, ← hq]; exact cmpS_eq _ _
    have HCALL := Aside0.mk hcall
    have HQE := Lib.hid hqe
    clear hcall hxe hq hqe
    go_wp2_with fail
    refine HCALL.out.mono ?_
    rintro e w5 ⟨rfl, hb5⟩
    have HB5 := Aside0.mk (HBR.out.trans (hb5.mono HBR.out.size))
    clear hb5 e0 e1 HCALL
    go_wp2_with fail
    go_ret2
    exact ⟨(show Ending.returned (.tuple #[.int .i64 (i : Int), .bool (q == 0)]) = _ by rw [HXE.out, ← HQE.out, d0, Bool.true_and]), HB5.out⟩
   ·
    have d0 : decide (i < n) = false := decide_eq_false hin
    go_wp2_with fail
    go_ret2
    exact ⟨(show Ending.returned (.tuple #[.int .i64 (i : Int), .bool false]) = _ by rw [d0, Bool.false_and]), HBR.out⟩
theorem attr_is (b o : Nat) (l : List S68) (A : Option Addr) (c n : Nat) (id : ByteArray) (w : World) (hcell : w.cell? ⟨b, o + 5, none⟩ = some (.slice A n c)) (hC : Kd.C k68 w A n l) (hn : l.length = n) (hl : n ≤ 100000) (hs : RisesA l) :
  Calls Try.prog 93 #[.pointer (some ⟨b, o, none⟩), .string id] w fun e w' => e = .returned (.tuple #[.int .i64 (lowA l id : Int), .bool (hasA l id)]) ∧ Below w.heap.size w w' := by
 have HCALL := Aside0.mk (bsfA_is l A c n id w hC hn hl hs)
 clear hC hn hl hs
 go_enter Try.func93, Try.ntmps93
 go_wp2_with fail
 refine HCALL.out.mono ?_
 rintro e w5 ⟨rfl, hb5⟩
 have HB5 := Aside0.mk hb5
 clear hb5 hcell
 go_wp2_with fail
 go_ret2
 exact ⟨rfl, HB5.out⟩
end Go.Proofs.Ytleofbidijbahaa.D
