import Derived.Test.YtleofbidijbahaaYD0
import Derived.Test.YtleofbidijbahaaYD2
namespace Go.Proofs.Ytleofbidijbahaa.D
open Go.RowKit Go.Proofs.YtleofbidijbahaaW.PrintWords Go.Proofs.YtleofbidijbahaaW.PrintLast Go.Proofs.YtleofbidijbahaaW.PrintMore
attribute [local go_sem] max2_int min2_int max_two min_two max_three min_three max_four min_four   -- for this text's walks alone
set_option linter.unusedVariables false
set_option linter.unusedSimpArgs false
def Rises (ns : List S63) : Prop := ∀ (i j : Nat) (hi : i < ns.length) (hj : j < ns.length), i < j → ns[i].f0 < ns[j].f0
def lowP (ns : List S63) (id : Int) : Nat := ns.countP fun x => decide (x.f0 < id)
def cmpI (a b : Int) : Int := if a < b then -1 else if a > b then 1 else 0
theorem cmpI_lt (a b : Int) : (cmpI a b < 0) ↔ a < b := by
 unfold cmpI
 split
 ·
  constructor <;> intro _ <;> omega
 ·
  split <;> constructor <;> intro _ <;> omega
theorem cmpI_eq (a b : Int) : (cmpI a b = 0) ↔ a = b := by
 unfold cmpI
 split
 ·
  constructor <;> intro _ <;> omega
 ·
  split <;> constructor <;> intro _ <;> omega
theorem cmp_f (a b : Int) : cmp_Compare_int.f a b = some (cmpI a b) := by
 unfold cmp_Compare_int.f cmp_isNaN_int.f cmpI
 simp only [Option.bind_some]
 by_cases h1 : a < b
 ·
  simp [h1]
 ·
  by_cases h2 : a > b
  ·
   simp [h1, h2]
  ·
   simp [h1, h2]
theorem byID_f (x : S63) (id : Int) : dom_byID.f x.f0 x.f1 x.f2 x.f3 x.f4 x.f5 x.f6 id = some (cmpI x.f0 id) := by
 unfold dom_byID.f
 rw [cmp_f]
 rfl
theorem lowP_at : ∀ (ns : List S63) (id : Int) (i : Nat), i ≤ ns.length → (∀ (t : Nat) (h : t < ns.length), t < i → ns[t].f0 < id) → (∀ (t : Nat) (h : t < ns.length), i ≤ t → id ≤ ns[t].f0) → lowP ns id = i
 | [], id, i, hi, _, _ => by
  simp at hi
  subst hi
  rfl
 | a :: r, id, 0, hi, _, h2 => by
  unfold lowP
  rw [List.countP_eq_zero]
  intro x hx
  obtain ⟨t, ht, rfl⟩ := List.getElem_of_mem hx
  have := h2 t ht (Nat.zero_le _)
  simp only [decide_eq_true_eq]
  omega
 | a :: r, id, i + 1, hi, h1, h2 => by
  have ha : a.f0 < id := by simpa using h1 0 (Nat.succ_pos _) (Nat.succ_pos _)
  have h := lowP_at r id i (by simpa using hi) (fun t ht hti => h1 (t + 1) (Nat.succ_lt_succ ht) (by omega)) (fun t ht hti => h2 (t + 1) (Nat.succ_lt_succ ht) (by omega))
  unfold lowP at h ⊢
  rw [List.countP_cons_of_pos (by simpa using ha), h]
set_option maxRecDepth 100000 in
set_option maxHeartbeats 4000000 in
theorem bsf_is (w0 : World) (ns : List S63) (A : Option Addr) (c : Nat) (id : Int) (hC : Kd.C k63 w0 A ns.length ns) (hl : ns.length ≤ 100000) (hs : Rises ns) (w : World) (hb : Below w0.heap.size w0 w) :
  Calls Try.prog 80 #[.slice A ns.length c, .int .i64 id, .func (.func 81) #[] #[]] w fun e w' => e = .returned (.tuple #[.int .i64 (lowP ns id : Int), .bool (decide (lowP ns id < ns.length) && decide ((rd_T63 ns (lowP ns id : Int)).f0 = id))]) ∧ Below w0.heap.size w w' := by
 obtain ⟨n, hn⟩ : ∃ n, ns.length = n := ⟨_, rfl⟩
 have HN := Lib.hid hn
 have HC := Aside0.mk hC
 have HS := Aside0.mk hs
 have HB := Aside0.mk hb
 rw [hn] at hl ⊢
 have HI : Aside0 (∀ (t : Nat) (h : t < ns.length), t < 0 → ns[t].f0 < id) := ⟨fun t h h0 => by omega⟩
 have HJ : Aside0 (∀ (t : Nat) (h : t < ns.length), n ≤ t → id ≤ ns[t].f0) := ⟨fun t h h0 => by have := HN.out; omega⟩
 obtain ⟨L, hL⟩ : ∃ L, lowP ns id = L := ⟨_, rfl⟩
 rw [hL]
 have HLL := Lib.hid hL
 clear hC hs hb hn hL
 go_enter Try.func80, Try.ntmps80
 go_wp2_with fail
 go_loopw [9, 10] (fun vi vj wr => ∃ i j : Nat, i ≤ j ∧ j ≤ n ∧ vi = .int .i64 i ∧ vj = .int .i64 j ∧ Aside0 (∀ (t : Nat) (h : t < ns.length), t < i → ns[t].f0 < id) ∧ Aside0 (∀ (t : Nat) (h : t < ns.length), j ≤ t → id ≤ ns[t].f0) ∧ Aside0 (Below w0.heap.size w wr)) (fun vi vj _ => (intOf vj).toNat - (intOf vi).toNat)
 case atStart => exact ⟨0, n, by omega, by omega, rfl, rfl, HI, HJ, ⟨Below.refl _ _⟩⟩
 case round =>
  obtain ⟨i, j, hij, hjn, rfl, rfl, HI, HJ, HBR⟩ := hrel
  by_cases hlt : i < j
  ·
   obtain ⟨h, hh⟩ : ∃ h : Nat, (i + j) / 2 = h := ⟨_, rfl⟩
   have h1 : i ≤ h := by omega
   have h2 : h < j := by omega
   have hjl : h < ns.length := by have := HN.out; omega
   obtain ⟨ad, A5, c5, A6, c6, rfl, e0, e1, e2, e3, e4, e5, e6, hl5, hC5, hl6, hC6⟩ := at_T63 HC.out (h : Int) (by omega) (by have := HN.out; omega)
   have hx : rd_T63 ns (h : Int) = ns[h] := by unfold rd_T63; rw [Int.toNat_natCast, List.getD_eq_getElem?_getD, List.getElem?_eq_getElem hjl, Option.getD_some]
   simp only [Int.toNat_natCast] at e0 e1 e2 e3 e4 e5 e6
   rw [hx] at e0 e1 e2 e3 e4 e5 e6 hl5 hC5 hl6 hC6
   have hbw : Below w0.heap.size w0 wr := HB.out.trans HBR.out
   have hup : ∀ (t : Nat) (ht : t < ns.length), t < h + 1 → ns[t].f0 ≤ ns[h].f0 := fun t ht hth => by
    rcases Nat.lt_or_ge t h with hq | hq
    ·
     have := HS.out t h ht hjl hq; omega
    ·
     obtain rfl : t = h := by omega
     exact Int.le_refl _
   have hdn : ∀ (t : Nat) (ht : t < ns.length), h ≤ t → ns[h].f0 ≤ ns[t].f0 := fun t ht hth => by
    rcases Nat.lt_or_ge h t with hq | hq
    ·
     have := HS.out h t hjl ht hq; omega
    ·
     obtain rfl : t = h := by omega
     exact Int.le_refl _
   obtain ⟨x, hxe⟩ : ∃ x, ns[h] = x := ⟨_, rfl⟩
   rw [hxe] at e0 e1 e2 e3 e4 e5 e6 hl5 hC5 hl6 hC6
   have hcall := dom_byID.calls x.f0 x.f1 x.f2 x.f3 x.f4 A5 c5 x.f5 A6 c6 x.f6 id _ wr (Kd.C_below hC5 hbw) hl5 (Kd.C_below hC6 hbw) hl6 (byID_f x id)
   replace e0 := pw_cell_below hbw e0
   replace e1 := pw_cell_below hbw e1
   replace e2 := pw_cell_below hbw e2
   replace e3 := pw_cell_below hbw e3
   replace e4 := pw_cell_below hbw e4
   replace e5 := pw_cell_below hbw e5
   replace e6 := pw_cell_below hbw e6
   obtain ⟨m5, hm5⟩ : ∃ m, x.f5.length = m := ⟨_, rfl⟩
   obtain ⟨m6, hm6⟩ : ∃ m, x.f6.length = m := ⟨_, rfl⟩
   rw [hm5] at e5 hcall
   rw [hm6] at e6 hcall
   obtain ⟨q, hq⟩ : ∃ q, cmpI x.f0 id = q := ⟨_, rfl⟩
   rw [hq] at hcall
   have hqlt : (q < 0) ↔ x.f0 < id := by rw [← hq]; exact cmpI_lt _ _
   have hw1 : IntKind.i64.wrap ((i : Int) + (j : Int)) = ((i + j : Nat) : Int) := by rw [i64_w]; unfold wrap64; omega
   have HW1 := Lib.hid hw1
   have HCALL := Aside0.mk hcall
   have HUP := Aside0.mk hup
   have HDN := Aside0.mk hdn
   have HXE := Lib.hid hxe
   have HQ := Aside0.mk hqlt
   have HB1 : Aside0 (Below w0.heap.size w0 wr) := ⟨hbw⟩
   have hsh : ((i + j : Nat) : Int) / 2 = (h : Int) := by omega
   have HSH := Lib.hid hsh
   clear hl5 hC5 hl6 hC6 hm5 hm6 hx hcall hup hdn hxe hq hqlt hbw hsh
   have hh2 : ((i : Int) + (j : Int)) / 2 = (h : Int) := by omega
   have HH := Lib.hid hh2
   clear hh2
   go_wp2_with fail
   refine HCALL.out.mono ?_
   rintro e w5 ⟨rfl, hb5⟩
   have HB5 := Aside0.mk (HBR.out.trans (hb5.mono HB1.out.size))
   clear hb5 e0 e1 e2 e3 e4 e5 e6 HCALL
   by_cases hq0 : q < 0
   ·
    have d1 : decide (q < 0) = true := decide_eq_true hq0
    have HIN : Aside0 (∀ (t : Nat) (ht : t < ns.length), t < h + 1 → ns[t].f0 < id) := ⟨fun t ht hth => by
     have h3 := HUP.out t ht hth
     have h4 := HQ.out.1 hq0
     have h5 := HXE.out
     rw [← h5] at h4
     omega⟩
    clear HUP HDN
    go_wp2_with fail
    exact ⟨⟨h + 1, j, by omega, by omega, congrArg (Value.int .i64) (by rw [HH.out]; omega), rfl, HIN, HJ, HB5⟩, by have := HH.out; simp only [intOf]; omega⟩
   ·
    have d1 : decide (q < 0) = false := decide_eq_false hq0
    have HJN : Aside0 (∀ (t : Nat) (ht : t < ns.length), h ≤ t → id ≤ ns[t].f0) := ⟨fun t ht hth => by
     have h3 := HDN.out t ht hth
     have h4 : ¬ x.f0 < id := fun hx => hq0 (HQ.out.2 hx)
     have h5 := HXE.out
     rw [← h5] at h4
     omega⟩
    clear HUP HDN
    go_wp2_with fail
    exact ⟨⟨i, h, by omega, by omega, rfl, congrArg (Value.int .i64) (by rw [HH.out]), HI, HJN, HB5⟩, by have := HH.out; simp only [intOf]; omega⟩
  ·
   obtain rfl : i = j := by omega
   have hlow : i = L := (HLL.out.symm.trans (lowP_at ns id i (by have := HN.out; omega) HI.out (fun t ht hti => HJ.out t ht hti))).symm
   clear HLL
   subst hlow
   by_cases hin : i < n
   ·
    have d0 : decide (i < n) = true := decide_eq_true hin
    have hjl : i < ns.length := by have := HN.out; omega
    obtain ⟨ad, A5, c5, A6, c6, rfl, e0, e1, e2, e3, e4, e5, e6, hl5, hC5, hl6, hC6⟩ := at_T63 HC.out (i : Int) (by omega) (by have := HN.out; omega)
    simp only [Int.toNat_natCast] at e0 e1 e2 e3 e4 e5 e6
    have hbw : Below w0.heap.size w0 wr := HB.out.trans HBR.out
    obtain ⟨x, hxe⟩ : ∃ x, rd_T63 ns (i : Int) = x := ⟨_, rfl⟩
    have HXE := Lib.hid hxe
    rw [hxe] at e0 e1 e2 e3 e4 e5 e6 hl5 hC5 hl6 hC6
    have hcall := dom_byID.calls x.f0 x.f1 x.f2 x.f3 x.f4 A5 c5 x.f5 A6 c6 x.f6 id _ wr (Kd.C_below hC5 hbw) hl5 (Kd.C_below hC6 hbw) hl6 (byID_f x id)
    replace e0 := pw_cell_below hbw e0
    replace e1 := pw_cell_below hbw e1
    replace e2 := pw_cell_below hbw e2
    replace e3 := pw_cell_below hbw e3
    replace e4 := pw_cell_below hbw e4
    replace e5 := pw_cell_below hbw e5
    replace e6 := pw_cell_below hbw e6
    obtain ⟨m5, hm5⟩ : ∃ m, x.f5.length = m := ⟨_, rfl⟩
    obtain ⟨m6, hm6⟩ : ∃ m, x.f6.length = m := ⟨_, rfl⟩
    rw [hm5] at e5 hcall
    rw [hm6] at e6 hcall
    obtain ⟨q, hq⟩ : ∃ q, cmpI x.f0 id = q := ⟨_, rfl⟩
    rw [hq] at hcall
    have hqe : (q == 0) = decide (x.f0 = id) := by rw [Bool.eq_iff_iff, beq_iff_eq, decide_eq_true_eq, ← hq]; exact cmpI_eq _ _
    have HCALL := Aside0.mk hcall
    have HQE := Lib.hid hqe
    have HB1 : Aside0 (Below w0.heap.size w0 wr) := ⟨hbw⟩
    clear hl5 hC5 hl6 hC6 hm5 hm6 hcall hxe hq hqe hbw
    go_wp2_with fail
    refine HCALL.out.mono ?_
    rintro e w5 ⟨rfl, hb5⟩
    have HB5 := Aside0.mk (HBR.out.trans (hb5.mono HB1.out.size))
    clear hb5 e0 e1 e2 e3 e4 e5 e6 HCALL
    go_wp2_with fail
    go_ret2
    exact ⟨(show Ending.returned (.tuple #[.int .i64 (i : Int), .bool (q == 0)]) = _ by rw [HXE.out, ← HQE.out, d0, Bool.true_and]), HB5.out⟩
   ·
    have d0 : decide (i < n) = false := decide_eq_false hin
    go_wp2_with fail
    go_ret2
    exact ⟨(show Ending.returned (.tuple #[.int .i64 (i : Int), .bool false]) = _ by rw [d0, Bool.false_and]), HBR.out⟩
def findV (A : Option Addr) (ns : List S63) (id : Int) : Value := if decide (lowP ns id < ns.length) && decide ((rd_T63 ns (lowP ns id : Int)).f0 = id) then .pointer (A.map fun a => a.add (lowP ns id * 7)) else .pointer none
set_option maxRecDepth 100000 in
set_option maxHeartbeats 4000000 in
theorem find_is (g : Nat) (rv nv : Value) (ns : List S63) (A : Option Addr) (c : Nat) (id : Int) (w : World) (hg : w.heap[g]? = some (.cells #[.slice A ns.length c, rv, nv] 28 (0, 0))) (hC : Kd.C k63 w A ns.length ns) (hl : ns.length ≤ 100000) (hs : Rises ns) :
  Calls Try.prog 49 #[.pointer (some ⟨g, 0, none⟩), .int .i64 id] w fun e w' => e = .returned (findV A ns id) ∧ Below w.heap.size w w' := by
 have HCALL := Aside0.mk (bsf_is w ns A c id hC hl hs w (Below.refl _ _))
 obtain ⟨L, hL⟩ : ∃ L, lowP ns id = L := ⟨_, rfl⟩
 unfold findV
 rw [hL] at HCALL ⊢
 obtain ⟨b, hb⟩ : ∃ b, (decide (L < ns.length) && decide ((rd_T63 ns (L : Int)).f0 = id)) = b := ⟨_, rfl⟩
 rw [hb] at HCALL ⊢
 have hin : b = true → L < ns.length := fun h => by rw [← hb] at h; simp only [Bool.and_eq_true, decide_eq_true_eq] at h; exact h.1
 have HC := Aside0.mk hC
 have HG := Aside0.mk hg
 obtain ⟨n, hn⟩ : ∃ n, ns.length = n := ⟨_, rfl⟩
 rw [hn] at hin HCALL HG HC hl
 clear hC hs hb hn hL
 have y0 : w.cell? ⟨g, 0, none⟩ = some (.slice A n c) := blk_cell HG.out 0
 go_enter Try.func49, Try.ntmps49
 go_wp2_with fail
 refine HCALL.out.mono ?_
 rintro e w5 ⟨rfl, hb5⟩
 have HB5 := Aside0.mk hb5
 clear hb5 HCALL
 cases b
 ·
  go_wp2_with fail
  go_ret
  exact ⟨rfl, HB5.out⟩
 ·
  have hlt := hin rfl
  have y0 : w5.cell? ⟨g, 0, none⟩ = some (.slice A n c) := blk_cell ((HB5.out.block g (Array.getElem?_eq_some_iff.1 HG.out).1).trans HG.out) 0
  obtain ⟨ad, c0, rfl, -⟩ := Kd.C_get HC.out z63 (L : Int) (by omega) (by omega)
  go_wp2_with fail
  go_ret
  exact ⟨rfl, HB5.out⟩
end Go.Proofs.Ytleofbidijbahaa.D
