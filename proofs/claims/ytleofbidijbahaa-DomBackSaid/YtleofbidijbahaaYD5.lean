import Derived.Test.YtleofbidijbahaaYD0
import Derived.Test.YtleofbidijbahaaYD2
namespace Go.Proofs.Ytleofbidijbahaa.D
open Go.RowKit Go.Proofs.YtleofbidijbahaaW.PrintWords Go.Proofs.YtleofbidijbahaaW.PrintLast Go.Proofs.YtleofbidijbahaaW.PrintMore
attribute [local go_sem] max2_int min2_int max_two min_two max_three min_three max_four min_four   -- for this text's walks alone
set_option linter.unusedVariables false
set_option linter.unusedSimpArgs false
def Rises (ns : List S63) : Prop := ∀ (i j : Nat) (hi : i < ns.length) (hj : j < ns.length), i < j → ns[i].f0 < ns[j].f0
def lowP (ns : List S63) (id : Int) : Nat := ns.countP fun x => decide (x.f0 < id)
def cmpI (a b : Int) : Int := if a < b then -1 else if a > b then 1 else 0
theorem cmpI_lt (a b : Int) : (cmpI a b < 0) ↔ a < b := by
 unfold cmpI
 split
 ·
  constructor <;> intro _ <;> omega
 ·
  split <;> constructor <;> intro _ <;> omega
theorem cmpI_eq (a b : Int) : (cmpI a b = 0) ↔ a = b := by
 unfold cmpI
 split
 ·
  constructor <;> intro _ <;> omega
 ·
  split <;> constructor <;> intro _ <;> omega
theorem cmp_f (a b : Int) : cmp_Compare_int.f a b = some (cmpI a b) := by
 unfold cmp_Compare_int.f cmp_isNaN_int.f cmpI
 simp only [Option.bind_some]
 by_cases h1 : a < b
 ·
  simp [h1]
 ·
  by_cases h2 : a > b
  ·
   simp [h1, h2]
  ·
   simp [h1, h2]
theorem byID_f (x : S63) (id : Int) : dom_byID.f x.f0 x.f1 x.f2 x.f3 x.f4 x.f5 x.f6 id = some (cmpI x.f0 id) := by
 unfold dom_byID.f
 rw [cmp_f]
 rfl
theorem lowP_at : ∀ (ns : List S63) (id : Int) (i : Nat), i ≤ ns.length → (∀ (t : Nat) (h : t < ns.length), t < i → ns[t].f0 < id) → (∀ (t : Nat) (h : t < ns.length), i ≤ t → id ≤ ns[t].f0) → lowP ns id = i
 | [], id, i, hi, _, _ => by
  simp at hi
  subst hi
  rfl
 | a :: r, id, 0, hi, _, h2 => by
  unfold lowP
  rw [List.countP_eq_zero]
  intro x hx
  obtain ⟨t, ht, rfl⟩ := List.getElem_of_mem hx
  have := h2 t ht (Nat.zero_le _)
  simp only [decide_eq_true_eq]
  omega
 | a :: r, id, i + 1, hi, h1, h2 => by
  have ha : a.f0 < id := by simpa using h1 0 (Nat.succ_pos _) (Nat.succ_pos _)
  have h := lowP_at r id i (by simpa using hi) (fun t ht hti => h1 (t + 1) (Nat.succ_lt_succ ht) (by omega)) (fun t ht hti => h2 (t + 1) (Nat.succ_lt_succ ht) (by omega))
  unfold lowP at h ⊢
  rw [List.countP_cons_of_pos (by simpa using ha), h]
set_option maxRecDepth 100000 in
set_option maxHeartbeats 4000000 in
theorem bsf_is (w0 : World) (ns : List S63) (A : Option Addr) (c : Nat) (id : Int) (hC : Kd.C k63 w0 A ns.length ns) (hl : ns.length ≤ 100000) (hs : Rises ns) (w : World) (hb : Below w0.heap.size w0 w) :
  Calls Try.prog 80 #[.slice A ns.length c, .int .i64 id, .func (.func 81) #[] #[]] w fun e w' => e = .returned (.tuple #[.int .i64 (lowP ns id : Int), .bool (decide (lowP ns id < ns.length) && decide ((rd_T63 ns (lowP ns id : Int)).f0 = id))]) ∧ Below w0.heap.size w w' := by
 obtain ⟨n, hn⟩ : ∃ n, ns.length = n := ⟨_, rfl⟩
 have HN := Lib.hid hn
 have HC := Aside0.mk hC
 have HS := Aside0.mk hs
 have HB := Aside0.mk hb
 rw [hn] at hl ⊢
 have HI : Aside0 (∀ (t : Nat) (h : t < ns.length), t < 0 → ns[t].f0 < id) := ⟨fun t h h0 => by omega⟩
 have HJ : Aside0 (∀ (t : Nat) (h : t < ns.length), n ≤ t → id ≤ ns[t].f0) := ⟨fun t h h0 => by have := HN.out; omega⟩
 obtain ⟨L, hL⟩ : ∃ L, lowP ns id = L := ⟨_, rfl⟩
 rw [hL]
 have HLL := Lib.hid hL
 clear hC hs hb hn hL
 go_enter Try.func80, Try.ntmps80
 go_wp2_with fail
 go_loopw [9, 10] (fun vi vj wr => ∃ i j : Nat, i ≤ j ∧ j ≤ n ∧ vi = .int .i64 i ∧ vj = .int .i64 j ∧ Aside0 (∀ (t : Nat) (h : t < ns.length), t < i → ns[t].f0 < id) ∧ Aside0 (∀ (t : Nat) (h : t < ns.length), j ≤ t → id ≤ ns[t].f0) ∧ Aside0 (Below w0.heap.size w wr)) (fun vi vj _ => (intOf vj).toNat - (intOf vi).toNat)
 case atStart => exact ⟨0, n, by omega, by omega, rfl, rfl, HI, HJ, ⟨Below.refl _ _⟩⟩
 case round =>
  obtain ⟨i, j, hij, hjn, rfl, rfl, HI, HJ, HBR⟩ := hrel
  by_cases hlt : i < j
  ·
   obtain ⟨h, hh⟩ : ∃ h : Nat, (i + j) / 2 = h := ⟨_, rfl⟩
   have h1 : i ≤ h := by omega
   have h2 : h < j := by omega
   have hjl : h < ns.length := by have := HN.out; omega
   obtain ⟨ad, A5, c5, A6, c6, rfl, e0, e1, e2, e3, e4, e5, e6, hl5, hC5, hl6, hC6⟩ := at_T63 HC.out (h : Int) (by omega) (by have := HN.out; omega)
   have hx : rd_T63 ns (h : Int) = ns[h] := by unfold rd_T63; rw [Int.toNat_natCast, List.getD_eq_getElem?_getD, List.getElem?_eq_getElem hjl, Option.getD_some]
   simp only [Int.toNat_natCast] at e0 e1 e2 e3 e4 e5 e6
   rw [hx] at e0 e1 e2 e3 e4 e5 e6 hl5 hC5 hl6 hC6
   have hbw : Below w0.heap.size w0 wr := HB.out.trans HBR.out
   have hup : ∀ (t : Nat) (ht : t < ns.length), t < h + 1 → ns[t].f0 ≤ ns[h].f0 := fun t ht hth => by
    rcases Nat.lt_or_ge t h with hq | hq
    ·
     have := HS.out t h ht hjl hq; omega
    ·
     obtain rfl : t = h := by omega
     exact Int.le_refl _
   have hdn : ∀ (t : Nat) (ht : t < ns.length), h ≤ t → ns[h].f0 ≤ ns[t].f0 := fun t ht hth => by
    rcases Nat.lt_or_ge h t with hq | hq
    ·
     have := HS.out h t hjl ht hq; omega
    ·
     obtain rfl : t = h := by omega
     exact Int.le_refl _
   obtain ⟨x, hxe⟩ : ∃ x, ns[h] = x := ⟨_, rfl⟩
   rw [hxe] at e0 e1 e2 e3 e4 e5 e6 hl5 hC5 hl6 hC6
   have hcall := dom_byID.calls x.f0 x.f1 x.f2 x.f3 x.f4 A5 c5 x.f5 A6 c6 x.f6 id _ wr (Kd.C_below hC5 hbw) hl5 (Kd.C_below hC6 hbw) hl6 (byID_f x id)
   replace e0 := pw_cell_below hbw e0
   replace e1 := pw_cell_below hbw e1
   replace e2 := pw_cell_below hbw e2
   replace e3 := pw_cell_below hbw e3
   replace e4 := pw_cell_below hbw e4
   replace e5 := pw_cell_below hbw e5
   replace e6 := pw_cell_below hbw e6
   obtain ⟨m5, hm5⟩ : ∃ m, x.f5.length = m := ⟨_, rfl⟩
   obtain ⟨m6, hm6⟩ : ∃ m, x.f6.length = m := ⟨_, rfl⟩
   rw [hm5] at e5 hcall
   rw [hm6] at e6 hcall
   obtain ⟨q, hq⟩ : ∃ q, cmpI x.f0 id = q := ⟨_, rfl⟩
   rw [hq] at hcall
   have hqlt : (q < 0) ↔ x.f0 < id := by rw [← hq]; exact cmpI_lt _ _
   have hw1 : IntKind.i64.wrap ((i : Int) + (j : Int)) = ((i + j : Nat) : Int) := by rw [i64_w]; unfold wrap64; omega
   have HW1 := Lib.hid hw1
   have HCALL := Aside0.mk hcall
   have HUP := Aside0.mk hup
   have HDN := Aside0.mk hdn
   have HXE := Lib.hid hxe
   have HQ := Aside0.mk hqlt
   have HB1 : Aside0 (Below w0.heap.size w0 wr) := ⟨hbw⟩
   have hsh : ((i + j : Nat) : Int) / 2 = (h : Int) := by omega
   have HSH := Lib.hid hsh
   clear hl5 hC5 hl6 hC6 hm5 hm6 hx hcall hup hdn hxe hq hqlt hbw hsh
   have hh2 : ((i : Int) + (j : Int)) / 2 = (h : Int) := by omega
   have HH := Lib.hid hh2
   clear hh2
   go_wp2_with fail
   refine HCALL.out.mono ?_
   rintro e w5 ⟨rfl, hb5⟩
   have HB5 := Aside0.mk (HBR.out.trans (hb5.mono HB1.out.size))
   clear hb5 e0 e1 e2 e3 e4 e5 e6 HCALL
   by_cases hq0 : q < 0
   ·
    have d1 : decide (q < 0) = true := decide_eq_true hq0
    have HIN : Aside0 (∀ (t : Nat) (ht : t < ns.length), t < h + 1 → ns[t].f0 < id) := ⟨fun t ht hth => by
     have h3 := HUP.out t ht hth
     have h4 := HQ.out.1 hq0
     have h5 := HXE.out
     rw [← h5] at h4
     omega⟩
    clear HUP HDN
    go_wp2_with fail
    exact ⟨⟨h + 1, j, by omega, by omega, congrArg (Value.int .i64) (by rw [HH.out]; omega), rfl, HIN, HJ, HB5⟩, by have := HH.out; simp only [intOf]; omega⟩
   ·
    have d1 : decide (q < 0) = false := decide_eq_false hq0
    have HJN : Aside0 (∀ (t : Nat) (ht : t < ns.length), h ≤ t → id ≤ ns[t].f0) := ⟨fun t ht hth => by
     have h3 := HDN.out t ht hth
     have h4 : ¬ x.f0 < id := fun hx => hq0 (HQ.out.2 hx)
     have h5 := HXE.out
     rw [← h5] at h4
     omega⟩
    clear HUP HDN
    go_wp2_with fail
    exact ⟨⟨i, h, by omega, by omega, rfl, congrArg (Value.int .i64) (by rw [HH.out]), HI, HJN, HB5⟩, by have := HH.out; simp only [intOf]; omega⟩
  ·
   obtain rfl : i = j := by omega
   have hlow : i = L := (HLL.out.symm.trans (lowP_at ns id i (by have := HN.out; omega) HI.out (fun t ht hti => HJ.out t ht hti))).symm
   clear HLL
   subst hlow
   by_cases hin : i < n
   ·
    have d0 : decide (i < n) = true := decide_eq_true hin
    have hjl : i < ns.length := by have := HN.out; omega
    obtain ⟨ad, A5, c5, A6, c6, rfl, e0, e1, e2, e3, e4, e5, e6, hl5, hC5, hl6, hC6⟩ := at_T63 HC.out (i : Int) (by omega) (by have := HN.out; omega)
    simp only [Int.toNat_natCast] at e0 e1 e2 e3 e4 e5 e6
    have hbw : Below w0.heap.size w0 wr := HB.out.trans HBR.out
    obtain ⟨x, hxe⟩ : ∃ x, rd_T63 ns (i : Int) = x := ⟨_, rfl⟩
    have HXE := Lib.hid hxe
    rw [hxe] at e0 e1 e2 e3 e4 e5 e6 hl5 hC5 hl6 hC6
    have hcall := dom_byID.calls x.f0 x.f1 x.f2 x.f3 x.f4 A5 c5 x.f5 A6 c6 x.f6 id _ wr (Kd.C_below hC5 hbw) hl5 (Kd.C_below hC6 hbw) hl6 (byID_f x id)
    replace e0 := pw_cell_below hbw e0
    replace e1 := pw_cell_below hbw e1
    replace e2 := pw_cell_below hbw e2
    replace e3 := pw_cell_below hbw e3
    replace e4 := pw_cell_below hbw e4
    replace e5 := pw_cell_below hbw e5
    replace e6 := pw_cell_below hbw e6
    obtain ⟨m5, hm5⟩ : ∃ m, x.f5.length = m := ⟨_, rfl⟩
    obtain ⟨m6, hm6⟩ : ∃ m, x.f6.length = m := ⟨_, rfl⟩
    rw [hm5] at e5 hcall
    rw [hm6] at e6 hcall
    obtain ⟨q, hq⟩ : ∃ q, cmpI x.f0 id = q := ⟨_, rfl⟩
    rw [hq] at hcall
    have hqe : (q == 0) = decide (x.f0 = id) := by rw [Bool.eq_iff_iff, beq_iff_eq, decide_eq_true_eq, ← hq]; exact cmpI_eq _ _
    have HCALL := Aside0.mk hcall
    have HQE := Lib.hid hqe
    have HB1 : Aside0 (Below w0.heap.size w0 wr) := ⟨hbw⟩
    clear hl5 hC5 hl6 hC6 hm5 hm6 hcall hxe hq hqe hbw
    go_wp2_with fail
    refine HCALL.out.mono ?_
    rintro e w5 ⟨rfl, hb5⟩
    have HB5 := Aside0.mk (HBR.out.trans (hb5.mono HB1.out.size))
    clear hb5 e0 e1 e2 e3 e4 e5 e6 HCALL
    go_wp2_with fail
    go_ret2
    exact ⟨(show Ending.returned (.tuple #[.int .i64 (i : Int), .bool (q == 0)]) = _ by rw [HXE.out, ← HQE.out, d0, Bool.true_and]), HB5.out⟩
   ·
    have d0 : decide (i < n) = false := decide_eq_false hin
    go_wp2_with fail
    go_ret2
    exact ⟨(show Ending.returned (.tuple #[.int .i64 (i : Int), .bool false]) = _ by rw [d0, Bool.false_and]), HBR.out⟩
def findV (A : Option Addr) (ns : List S63) (id : Int) : Value := if decide (lowP ns id < ns.length) && decide ((rd_T63 ns (lowP ns id : Int)).f0 = id) then .pointer (A.map fun a => a.add (lowP ns id * 7)) else .pointer none
set_option maxRecDepth 100000 in
set_option maxHeartbeats 4000000 in
theorem find_is (g : Nat) (rv nv : Value) (ns : List S63) (A : Option Addr) (c : Nat) (id : Int) (w : World) (hg : w.heap[g]? = some (.cells #[.slice A ns.length c, rv, nv] 28 (0, 0))) (hC : Kd.C k63 w A ns.length ns) (hl : ns.length ≤ 100000) (hs : Rises ns) :
  Calls Try.prog 49 #[.pointer (some ⟨g, 0, none⟩), .int .i64 id] w fun e w' => e = .returned (findV A ns id) ∧ Below w.heap.size w w' := by
 have HCALL := Aside0.mk (bsf_is w ns A c id hC hl hs w (Below.refl _ _))
 obtain ⟨L, hL⟩ : ∃ L, lowP ns id = L := ⟨_, rfl⟩
 unfold findV
 rw [hL] at HCALL ⊢
 obtain ⟨b, hb⟩ : ∃ b, (decide (L < ns.length) && decide ((rd_T63 ns (L : Int)).f0 = id)) = b := ⟨_, rfl⟩
 rw [hb] at HCALL ⊢
 have hin : b = true → L < ns.length := fun h => by rw [← hb] at h; simp only [Bool.and_eq_true, decide_eq_true_eq] at h; exact h.1
 have HC := Aside0.mk hC
 have HG := Aside0.mk hg
 obtain ⟨n, hn⟩ : ∃ n, ns.length = n := ⟨_, rfl⟩
 rw [hn] at hin HCALL HG HC hl
 clear hC hs hb hn hL
 have y0 : w.cell? ⟨g, 0, none⟩ = some (.slice A n c) := blk_cell HG.out 0
 go_enter Try.func49, Try.ntmps49
 go_wp2_with fail
 refine HCALL.out.mono ?_
 rintro e w5 ⟨rfl, hb5⟩
 have HB5 := Aside0.mk hb5
 clear hb5 HCALL
 cases b
 ·
  go_wp2_with fail
  go_ret
  exact ⟨rfl, HB5.out⟩
 ·
  have hlt := hin rfl
  have y0 : w5.cell? ⟨g, 0, none⟩ = some (.slice A n c) := blk_cell ((HB5.out.block g (Array.getElem?_eq_some_iff.1 HG.out).1).trans HG.out) 0
  obtain ⟨ad, c0, rfl, -⟩ := Kd.C_get HC.out z63 (L : Int) (by omega) (by omega)
  go_wp2_with fail
  go_ret
  exact ⟨rfl, HB5.out⟩
end Go.Proofs.Ytleofbidijbahaa.D
namespace Go.Proofs.Ytleofbidijbahaa.D
open Go.RowKit Go.Proofs.YtleofbidijbahaaW.PrintWords Go.Proofs.YtleofbidijbahaaW.PrintLast Go.Proofs.YtleofbidijbahaaW.PrintMore
attribute [local go_sem] max2_int min2_int max_two min_two max_three min_three max_four min_four   -- for this text's walks alone
set_option linter.unusedVariables false
set_option linter.unusedSimpArgs false
def nodeOf (ns : List S63) (id : Int) : Option S63 := if decide (lowP ns id < ns.length) && decide ((rd_T63 ns (lowP ns id : Int)).f0 = id) then some (rd_T63 ns (lowP ns id : Int)) else none
theorem findV_none {A : Option Addr} {ns : List S63} {id : Int} (h : nodeOf ns id = none) : findV A ns id = .pointer none := by
 unfold nodeOf at h
 unfold findV
 split at h
 ·
  cases h
 ·
  rename_i hb
  rw [if_neg hb]
theorem findV_some {w : World} {A : Option Addr} {n : Nat} {ns : List S63} {id : Int} {x : S63} (hC : Kd.C k63 w A n ns) (hn : ns.length = n) (h : nodeOf ns id = some x) : ∃ ad L A5 c5 A6 c6, A = some ad ∧ lowP ns id = L ∧ L < ns.length ∧ x = rd_T63 ns (L : Int) ∧ x.f0 = id ∧ findV A ns id = .pointer (some (ad.add (L * 7))) ∧ w.cell? (ad.add (L * 7)) = some (.int .i64 x.f0) ∧ w.cell? ⟨(ad.add (L * 7)).block, (ad.add (L * 7)).off + 1, none⟩ = some (.int .i64 x.f1) ∧ w.cell? ⟨(ad.add (L * 7)).block, (ad.add (L * 7)).off + 2, none⟩ = some (.string x.f2) ∧ w.cell? ⟨(ad.add (L * 7)).block, (ad.add (L * 7)).off + 3, none⟩ = some (.string x.f3) ∧ w.cell? ⟨(ad.add (L * 7)).block, (ad.add (L * 7)).off + 4, none⟩ = some (.string x.f4) ∧ w.cell? ⟨(ad.add (L * 7)).block, (ad.add (L * 7)).off + 5, none⟩ = some (.slice A5 x.f5.length c5) ∧ w.cell? ⟨(ad.add (L * 7)).block, (ad.add (L * 7)).off + 6, none⟩ = some (.slice A6 x.f6.length c6) ∧ Kd.C k68 w A5 x.f5.length x.f5 ∧ Kd.C (Kd.int .i64) w A6 x.f6.length x.f6 := by
 unfold nodeOf at h
 split at h
 ·
  rename_i hb
  have hbb := hb
  simp only [Bool.and_eq_true, decide_eq_true_eq] at hb
  have hx := (Option.some.inj h).symm
  obtain ⟨ad, A5, c5, A6, c6, rfl, e0, e1, e2, e3, e4, e5, e6, hl5, hC5, hl6, hC6⟩ := at_T63 hC (lowP ns id : Int) (by omega) (by omega)
  simp only [Int.toNat_natCast] at e0 e1 e2 e3 e4 e5 e6
  refine ⟨ad, lowP ns id, A5, c5, A6, c6, rfl, rfl, hb.1, hx, by rw [hx]; exact hb.2, by unfold findV; rw [if_pos hbb]; rfl, ?_⟩
  rw [hx]
  exact ⟨e0, e1, e2, e3, e4, e5, e6, hC5, hC6⟩
 ·
  cases h
def upF (ns : List S63) (other : Int) : Nat → Int → Bool
 | 0, _ => false
 | k + 1, id => match nodeOf ns id with
  | none => decide (id = other) && !decide (id = 0)
  | some x => if id = other then !decide (id = 0) else upF ns other k x.f1
set_option maxRecDepth 100000 in
set_option maxHeartbeats 4000000 in
theorem up_is (g : Nat) (rv nv : Value) (ns : List S63) (A : Option Addr) (c : Nat) (id other : Int) (w : World) (hg : w.heap[g]? = some (.cells #[.slice A ns.length c, rv, nv] 28 (0, 0))) (hC : Kd.C k63 w A ns.length ns) (hl : ns.length ≤ 100000) (hs : Rises ns) :
  Calls Try.prog 88 #[.pointer (some ⟨g, 0, none⟩), .int .i64 id, .int .i64 other] w fun e w' => e = .returned (.bool (upF ns other (ns.length + 1) id)) ∧ Below w.heap.size w w' := by
 have HC := Aside0.mk hC
 have HG := Aside0.mk hg
 have HS := Aside0.mk hs
 obtain ⟨n, hn⟩ : ∃ n, ns.length = n := ⟨_, rfl⟩
 have HN := Lib.hid hn
 rw [hn] at HG HC hl ⊢
 obtain ⟨R, hR⟩ : ∃ R, upF ns other (n + 1) id = R := ⟨_, rfl⟩
 rw [hR]
 have HR := Lib.hid hR
 clear hC hs hn hR hg
 have y0 : w.cell? ⟨g, 0, none⟩ = some (.slice A n c) := blk_cell HG.out 0
 go_enter Try.func88, Try.ntmps88
 go_wp2_with fail
 go_loopw [1, 14] (fun vi vj wr => ∃ (i : Int) (j : Nat), j ≤ n + 1 ∧ vi = .int .i64 i ∧ vj = .int .i64 j ∧ Aside0 (upF ns other (n + 1 - j) i = R) ∧ Aside0 (Below w.heap.size w wr)) (fun _ vj _ => n + 1 - (intOf vj).toNat)
 case atStart => exact ⟨id, 0, by omega, rfl, rfl, ⟨HR.out⟩, ⟨Below.refl _ _⟩⟩
 case round =>
  obtain ⟨i, j, hj, rfl, rfl, HR, HBR⟩ := hrel
  have hlp : w.heap.size ≤ wr.heap.size := HBR.out.size
  have HGr : Aside0 (wr.heap[g]? = some (.cells #[.slice A n c, rv, nv] 28 (0, 0))) := ⟨(HBR.out.block g (Array.getElem?_eq_some_iff.1 HG.out).1).trans HG.out⟩
  have HCr : Aside0 (Kd.C k63 wr A n ns) := ⟨Kd.C_below HC.out HBR.out⟩
  by_cases hlt : j < n + 1
  ·
   obtain ⟨k, hk⟩ : ∃ k, n + 1 - j = k + 1 := ⟨n - j, by omega⟩
   have hk2 : n + 1 - (j + 1) = k := by omega
   have hd1 : decide ((j : Int) < (n : Int) + 1) = true := decide_eq_true (by omega)
   rw [hk, upF] at HR
   have HCALL := Aside0.mk (find_is g rv nv ns A c i wr (by rw [HN.out]; exact HGr.out) (by rw [HN.out]; exact HCr.out) (by rw [HN.out]; exact hl) HS.out)
   cases hno : nodeOf ns i with
   | none =>
    rw [findV_none hno] at HCALL
    rw [hno] at HR
    clear hk hk2
    go_wp2_with fail
    refine HCALL.out.mono ?_
    rintro e w5 ⟨rfl, hb5⟩
    have HB5 := Aside0.mk (HBR.out.trans (hb5.mono hlp))
    clear hb5 HCALL
    by_cases hio : i = other
    ·
     subst hio
     go_wp2_with fail
     go_ret
     have hr := HR.out
     exact ⟨(show Ending.returned (.bool (i != 0)) = _ by rw [← hr]; simp only [bne, decide_true, Bool.true_and]; rfl), HB5.out⟩
    ·
     have hd2 : decide (i = other) = false := decide_eq_false hio
     go_wp2_with fail
     go_ret
     have hr := HR.out
     exact ⟨(show Ending.returned (.bool false) = _ by rw [← hr, hd2, Bool.false_and]), HB5.out⟩
   | some x =>
    obtain ⟨ad, L, A5, c5, A6, c6, rfl, -, -, -, -, hfv, e0, e1, -⟩ := findV_some HCr.out HN.out hno
    rw [hfv] at HCALL
    rw [hno] at HR
    go_wp2_with fail
    refine HCALL.out.mono ?_
    rintro e w5 ⟨rfl, hb5⟩
    have HB5 := Aside0.mk (HBR.out.trans (hb5.mono hlp))
    replace e1 := pw_cell_below hb5 e1
    clear hb5 HCALL
    by_cases hio : i = other
    ·
     subst hio
     go_wp2_with fail
     go_ret
     have hr := HR.out
     exact ⟨(show Ending.returned (.bool (i != 0)) = _ by rw [← hr]; simp only [bne, if_true]; rfl), HB5.out⟩
    ·
     have hd2 : decide (i = other) = false := decide_eq_false hio
     go_wp2_with fail
     have hr := HR.out
     simp only [if_neg hio] at hr
     exact ⟨⟨x.f1, j + 1, by omega, rfl, rfl, ⟨by rw [hk2]; exact hr⟩, HB5⟩, by simp only [intOf]; omega⟩
  ·
   obtain rfl : j = n + 1 := by omega
   have hd1 : decide ((n : Int) + 1 < (n : Int) + 1) = false := decide_eq_false (by omega)
   go_wp2_with fail
   go_ret
   have hr := HR.out
   rw [show n + 1 - (n + 1) = 0 by omega, upF] at hr
   exact ⟨by rw [← hr]; rfl, HBR.out⟩
end Go.Proofs.Ytleofbidijbahaa.D
namespace Go.Proofs.Ytleofbidijbahaa.D
open Go.RowKit Go.Proofs.YtleofbidijbahaaW.PrintWords Go.Proofs.YtleofbidijbahaaW.PrintLast Go.Proofs.YtleofbidijbahaaW.PrintMore
attribute [local go_sem] max2_int min2_int max_two min_two max_three min_three max_four min_four   -- for this text's walks alone
set_option linter.unusedVariables false
set_option linter.unusedSimpArgs false
def badC (x : Int) : Bool := decide (x < 97) || decide (122 < x)
def lettersB (s : ByteArray) : Bool := !decide (s.toList = []) && (decide (s.size ≤ 16) && !((bytesOf s).any badC))
def tree_Letters.f (a0 : ByteArray) : Option Bool := some (lettersB a0)
theorem badC_calls (x : Int) (b : Bool) (hb : badC x = b) (w : World) : Calls Try.prog 116 #[.int .u8 x] w fun e w' => e = .returned (.bool b) ∧ w = w' := by
 subst hb
 by_cases h1 : x < 97
 ·
  have d1 : decide (x < 97) = true := decide_eq_true h1
  go_enter Try.func116, Try.ntmps116
  go_wp2
  go_ret
  exact ⟨by unfold badC; rw [d1]; rfl, rfl⟩
 ·
  have d1 : decide (x < 97) = false := decide_eq_false h1
  go_enter Try.func116, Try.ntmps116
  go_wp2
  go_ret
  exact ⟨by unfold badC; rw [d1]; rfl, rfl⟩
set_option maxRecDepth 100000 in
set_option maxHeartbeats 2000000 in
theorem indexfunc1 (A0 : Option Addr) (c0 : Nat) (l0 : List Int) (w : World) (hr0 : Kd.C (Kd.int .u8) w A0 l0.length l0) (hlen : l0.length ≤ 1099511627776) :
  Calls Try.prog 129 #[.slice A0 l0.length c0, .func (.func 116) #[] #[]] w fun e w' => (∃ i : Int, e = .returned (.int .i64 i) ∧ (0 ≤ i ↔ (l0.any badC) = true)) ∧ w = w' := by
 have HR := Aside0.mk hr0
 have HL := Aside0.mk hlen
 obtain ⟨n, hn⟩ : ∃ n, l0.length = n := ⟨_, rfl⟩
 have HN := Lib.hid hn
 have hnb : n ≤ 1099511627776 := by rw [← hn]; exact hlen
 rw [hn]
 clear hr0 hlen hn
 go_enter Try.func129, Try.ntmps129
 go_wp2_with fail
 go_loop [8] (fun i => ∃ k : Nat, k ≤ n ∧ i = .int .i64 k ∧ Aside0 (∀ x ∈ l0.take k, badC x = false)) (fun i => n - (intOf i).toNat)
 case atStart => exact ⟨0, by omega, rfl, ⟨by simp⟩⟩
 case round =>
  obtain ⟨k, hk, rfl, HZ⟩ := hrel
  by_cases hlt : k < n
  ·
   obtain ⟨ad, rfl, hcell⟩ := Kd.at_int HR.out (k : Int) (by omega) (by have := HN.out; omega)
   simp only [Int.toNat_natCast] at hcell
   have hx : l0.take (k + 1) = l0.take k ++ [rd l0 (k : Int)] := by
    have hk' : k < l0.length := by have := HN.out; omega
    rw [List.take_succ_eq_append_getElem hk']
    simp [rd, hk']
   obtain ⟨x, hxe⟩ : ∃ x, rd l0 (k : Int) = x := ⟨_, rfl⟩
   rw [hxe] at hcell hx
   have HX := Lib.hid hx
   clear hx hxe
   cases hb : badC x with
   | false =>
    go_wp2_with (go_at_call 116; refine (badC_calls x false hb _).mono ?_; rintro e w2 ⟨rfl, rfl⟩)
    go_round
    case rel =>
     refine ⟨k + 1, by omega, by go_num, ⟨fun y hy => ?_⟩⟩
     rw [HX.out] at hy
     rcases List.mem_append.1 hy with hy | hy
     ·
      exact HZ.out y hy
     ·
      rw [List.mem_singleton.1 hy]; exact hb
    case measure => simp [intOf]; omega
   | true =>
    go_wp2_with (go_at_call 116; refine (badC_calls x true hb _).mono ?_; rintro e w2 ⟨rfl, rfl⟩)
    go_ret
    refine ⟨⟨(k : Int), rfl, ?_⟩, rfl⟩
    refine ⟨fun _ => List.any_eq_true.2 ⟨x, ?_, hb⟩, fun _ => by omega⟩
    have : x ∈ l0.take (k + 1) := by rw [HX.out]; simp
    exact List.mem_of_mem_take this
  ·
   obtain rfl : k = n := by omega
   go_wp2
   go_ret
   refine ⟨⟨-1, rfl, ⟨fun h => by omega, fun h => ?_⟩⟩, rfl⟩
   obtain ⟨x, hx, hx2⟩ := h
   have hm : x ∈ l0.take k := by rw [List.take_of_length_le (by have := HN.out; omega)]; exact hx
   exact absurd (HZ.out x hm) (by rw [hx2]; decide)
theorem anybad1 (A0 : Option Addr) (c0 : Nat) (l0 : List Int) (w : World) (hr0 : Kd.C (Kd.int .u8) w A0 l0.length l0) (hl : l0.length ≤ 1099511627776) :
  Calls Try.prog 117 #[.slice A0 l0.length c0, .func (.func 116) #[] #[]] w fun e w' => e = .returned (.bool (l0.any badC)) ∧ w = w' := by
 have HC := Aside0.mk (indexfunc1 A0 c0 l0 w hr0 hl)
 obtain ⟨r, hr⟩ : ∃ r, l0.any badC = r := ⟨_, rfl⟩
 have HH := Lib.hid hr
 rw [hr]
 clear hr0 hl hr
 go_enter Try.func117, Try.ntmps117
 go_wp2_with (go_at_call 129; refine HC.out.mono ?_; rintro e w2 ⟨⟨i, rfl, hi⟩, rfl⟩; have HI := Aside0.mk hi; clear hi)
 go_ret
 refine ⟨?_, rfl⟩
 have hi := HI.out
 rw [HH.out] at hi
 cases r with
 | false =>
  have hd : decide (0 ≤ i) = false := decide_eq_false (fun h => by have := hi.1 h; cases this)
  rw [hd]
  rfl
 | true =>
  have hd : decide (0 ≤ i) = true := decide_eq_true (hi.2 rfl)
  rw [hd]
  rfl
theorem tree_Letters.calls (a0 : ByteArray) (r : Bool) (w : World) (h : tree_Letters.f a0 = some r) :
  Calls Try.prog 94 #[.string a0] w fun e w' => e = .returned (.bool r) ∧ Below w.heap.size w w' := by
 replace h := Option.some.inj h
 have HH := Lib.hid h
 clear h
 cases h1 : a0.toList.isEmpty with
 | true =>
  have e1 : a0.toList = [] := List.isEmpty_iff.1 h1
  go_enter Try.func94, Try.ntmps94
  go_wp2_with fail
  go_ret
  refine ⟨?_, Below.refl _ _⟩
  rw [← HH.out]
  unfold lettersB
  rw [decide_eq_true e1]
  rfl
 | false =>
  have e1 : ¬ a0.toList = [] := fun h => by rw [List.isEmpty_iff.2 h] at h1; cases h1
  by_cases h2 : a0.size ≤ 16
  ·
   have kb := fun W => print_bytes (P := Try.prog) 9 158 5 Try.underlying9 Try.underlying158 Try.underlying5 a0 W
   have d2 : decide ((a0.size : Int) ≤ 16) = true := decide_eq_true (by omega)
   have hrd := bytes_reads w 5 a0 (by omega)
   have hC := anybad1 (some ⟨w.heap.size, 0, none⟩) (grownCap w a0.size 0 5) (bytesOf a0) (Lib.bytesWorld w 5 a0) (by rw [bytesOf_length]; exact Kd.C_of_reads hrd) (by rw [bytesOf_length]; omega)
   rw [bytesOf_length] at hC
   have HC := Aside0.mk hC
   have hbel := bytes_below (Below.refl w.heap.size w) (Nat.le_refl _) 5 a0
   have HB := Aside0.mk hbel
   obtain ⟨b, hb⟩ : ∃ b, (bytesOf a0).any badC = b := ⟨_, rfl⟩
   rw [hb] at HC
   have HV := Lib.hid hb
   clear hrd hC hbel hb
   go_enter Try.func94, Try.ntmps94
   go_wp2_with fail
   refine HC.out.mono ?_
   rintro e w2 ⟨rfl, rfl⟩
   go_wp2_with fail
   go_ret
   refine ⟨?_, HB.out⟩
   rw [← HH.out]
   unfold lettersB
   rw [decide_eq_false e1, decide_eq_true h2, HV.out]
   cases b <;> rfl
  ·
   have d2 : decide ((a0.size : Int) ≤ 16) = false := decide_eq_false (by omega)
   go_enter Try.func94, Try.ntmps94
   go_wp2_with fail
   go_ret
   refine ⟨?_, Below.refl _ _⟩
   rw [← HH.out]
   unfold lettersB
   rw [decide_eq_false e1, decide_eq_false h2]
   rfl
end Go.Proofs.Ytleofbidijbahaa.D
