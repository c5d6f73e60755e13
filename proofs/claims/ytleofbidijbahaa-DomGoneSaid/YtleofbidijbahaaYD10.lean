import Derived.Test.YtleofbidijbahaaYD0
import Derived.Test.YtleofbidijbahaaYD3
namespace Go.Proofs.Ytleofbidijbahaa.D
open Go.RowKit Go.Proofs.YtleofbidijbahaaW.PrintWords Go.Proofs.YtleofbidijbahaaW.PrintLast Go.Proofs.YtleofbidijbahaaW.PrintMore
attribute [local go_sem] max2_int min2_int max_two min_two max_three min_three max_four min_four   -- for this text's walks alone
set_option linter.unusedVariables false
set_option linter.unusedSimpArgs false
def nodeOf (ns : List S63) (id : Int) : Option S63 := if decide (lowP ns id < ns.length) && decide ((rd_T63 ns (lowP ns id : Int)).f0 = id) then some (rd_T63 ns (lowP ns id : Int)) else none
theorem findV_none {A : Option Addr} {ns : List S63} {id : Int} (h : nodeOf ns id = none) : findV A ns id = .pointer none := by
 unfold nodeOf at h
 unfold findV
 split at h
 ·
  cases h
 ·
  rename_i hb
  rw [if_neg hb]
theorem findV_some {w : World} {A : Option Addr} {n : Nat} {ns : List S63} {id : Int} {x : S63} (hC : Kd.C k63 w A n ns) (hn : ns.length = n) (h : nodeOf ns id = some x) : ∃ ad L A5 c5 A6 c6, A = some ad ∧ lowP ns id = L ∧ L < ns.length ∧ x = rd_T63 ns (L : Int) ∧ x.f0 = id ∧ findV A ns id = .pointer (some (ad.add (L * 7))) ∧ w.cell? (ad.add (L * 7)) = some (.int .i64 x.f0) ∧ w.cell? ⟨(ad.add (L * 7)).block, (ad.add (L * 7)).off + 1, none⟩ = some (.int .i64 x.f1) ∧ w.cell? ⟨(ad.add (L * 7)).block, (ad.add (L * 7)).off + 2, none⟩ = some (.string x.f2) ∧ w.cell? ⟨(ad.add (L * 7)).block, (ad.add (L * 7)).off + 3, none⟩ = some (.string x.f3) ∧ w.cell? ⟨(ad.add (L * 7)).block, (ad.add (L * 7)).off + 4, none⟩ = some (.string x.f4) ∧ w.cell? ⟨(ad.add (L * 7)).block, (ad.add (L * 7)).off + 5, none⟩ = some (.slice A5 x.f5.length c5) ∧ w.cell? ⟨(ad.add (L * 7)).block, (ad.add (L * 7)).off + 6, none⟩ = some (.slice A6 x.f6.length c6) ∧ Kd.C k68 w A5 x.f5.length x.f5 ∧ Kd.C (Kd.int .i64) w A6 x.f6.length x.f6 := by
 unfold nodeOf at h
 split at h
 ·
  rename_i hb
  have hbb := hb
  simp only [Bool.and_eq_true, decide_eq_true_eq] at hb
  have hx := (Option.some.inj h).symm
  obtain ⟨ad, A5, c5, A6, c6, rfl, e0, e1, e2, e3, e4, e5, e6, hl5, hC5, hl6, hC6⟩ := at_T63 hC (lowP ns id : Int) (by omega) (by omega)
  simp only [Int.toNat_natCast] at e0 e1 e2 e3 e4 e5 e6
  refine ⟨ad, lowP ns id, A5, c5, A6, c6, rfl, rfl, hb.1, hx, by rw [hx]; exact hb.2, by unfold findV; rw [if_pos hbb]; rfl, ?_⟩
  rw [hx]
  exact ⟨e0, e1, e2, e3, e4, e5, e6, hC5, hC6⟩
 ·
  cases h
def upF (ns : List S63) (other : Int) : Nat → Int → Bool
 | 0, _ => false
 | k + 1, id => match nodeOf ns id with
  | none => decide (id = other) && !decide (id = 0)
  | some x => if id = other then !decide (id = 0) else upF ns other k x.f1
set_option maxRecDepth 100000 in
set_option maxHeartbeats 4000000 in
theorem up_is (g : Nat) (rv nv : Value) (ns : List S63) (A : Option Addr) (c : Nat) (id other : Int) (w : World) (hg : w.heap[g]? = some (.cells #[.slice A ns.length c, rv, nv] 28 (0, 0))) (hC : Kd.C k63 w A ns.length ns) (hl : ns.length ≤ 100000) (hs : Rises ns) :
  Calls Try.prog 88 #[.pointer (some ⟨g, 0, none⟩), .int .i64 id, .int .i64 other] w fun e w' => e = .returned (.bool (upF ns other (ns.length + 1) id)) ∧ Below w.heap.size w w' := by
 have HC := Aside0.mk hC
 have HG := Aside0.mk hg
 have HS := Aside0.mk hs
 obtain ⟨n, hn⟩ : ∃ n, ns.length = n := ⟨_, rfl⟩
 have HN := Lib.hid hn
 rw [hn] at HG HC hl ⊢
 obtain ⟨R, hR⟩ : ∃ R, upF ns other (n + 1) id = R := ⟨_, rfl⟩
 rw [hR]
 have HR := Lib.hid hR
 clear hC hs hn hR hg
 have y0 : w.cell? ⟨g, 0, none⟩ = some (.slice A n c) := blk_cell HG.out 0
 go_enter Try.func88, Try.ntmps88
 go_wp2_with fail
 go_loopw [1, 14] (fun vi vj wr => ∃ (i : Int) (j : Nat), j ≤ n + 1 ∧ vi = .int .i64 i ∧ vj = .int .i64 j ∧ Aside0 (upF ns other (n + 1 - j) i = R) ∧ Aside0 (Below w.heap.size w wr)) (fun _ vj _ => n + 1 - (intOf vj).toNat)
 case atStart => exact ⟨id, 0, by omega, rfl, rfl, ⟨HR.out⟩, ⟨Below.refl _ _⟩⟩
 case round =>
  obtain ⟨i, j, hj, rfl, rfl, HR, HBR⟩ := hrel
  have hlp : w.heap.size ≤ wr.heap.size := HBR.out.size
  have HGr : Aside0 (wr.heap[g]? = some (.cells #[.slice A n c, rv, nv] 28 (0, 0))) := ⟨(HBR.out.block g (Array.getElem?_eq_some_iff.1 HG.out).1).trans HG.out⟩
  have HCr : Aside0 (Kd.C k63 wr A n ns) := ⟨Kd.C_below HC.out HBR.out⟩
  by_cases hlt : j < n + 1
  ·
   obtain ⟨k, hk⟩ : ∃ k, n + 1 - j = k + 1 := ⟨n - j, by omega⟩
   have hk2 : n + 1 - (j + 1) = k := by omega
   have hd1 : decide ((j : Int) < (n : Int) + 1) = true := decide_eq_true (by omega)
   rw [hk, upF] at HR
   have HCALL := Aside0.mk (find_is g rv nv ns A c i wr (by rw [HN.out]; exact HGr.out) (by rw [HN.out]; exact HCr.out) (by rw [HN.out]; exact hl) HS.out)
   cases hno : nodeOf ns i with
   | none =>
    rw [findV_none hno] at HCALL
    rw [hno] at HR
    clear hk hk2
    go_wp2_with fail
    refine HCALL.out.mono ?_
    rintro e w5 ⟨rfl, hb5⟩
    have HB5 := Aside0.mk (HBR.out.trans (hb5.mono hlp))
    clear hb5 HCALL
    by_cases hio : i = other
    ·
     subst hio
     go_wp2_with fail
     go_ret
     have hr := HR.out
     exact ⟨(show Ending.returned (.bool (i != 0)) = _ by rw [← hr]; simp only [bne, decide_true, Bool.true_and]; rfl), HB5.out⟩
    ·
     have hd2 : decide (i = other) = false := decide_eq_false hio
     go_wp2_with fail
     go_ret
     have hr := HR.out
     exact ⟨(show Ending.returned (.bool false) = _ by rw [← hr, hd2, Bool.false_and]), HB5.out⟩
   | some x =>
    obtain ⟨ad, L, A5, c5, A6, c6, rfl, -, -, -, -, hfv, e0, e1, -⟩ := findV_some HCr.out HN.out hno
    rw [hfv] at HCALL
    rw [hno] at HR
    go_wp2_with fail
    refine HCALL.out.mono ?_
    rintro e w5 ⟨rfl, hb5⟩
    have HB5 := Aside0.mk (HBR.out.trans (hb5.mono hlp))
    replace e1 := pw_cell_below hb5 e1
    clear hb5 HCALL
    by_cases hio : i = other
    ·
     subst hio
     go_wp2_with fail
     go_ret
     have hr := HR.out
     exact ⟨(show Ending.returned (.bool (i != 0)) = _ by rw [← hr]; simp only [bne, if_true]; rfl), HB5.out⟩
    ·
     have hd2 : decide (i = other) = false := decide_eq_false hio
     go_wp2_with fail
     have hr := HR.out
     simp only [if_neg hio] at hr
     exact ⟨⟨x.f1, j + 1, by omega, rfl, rfl, ⟨by rw [hk2]; exact hr⟩, HB5⟩, by simp only [intOf]; omega⟩
  ·
   obtain rfl : j = n + 1 := by omega
   have hd1 : decide ((n : Int) + 1 < (n : Int) + 1) = false := decide_eq_false (by omega)
   go_wp2_with fail
   go_ret
   have hr := HR.out
   rw [show n + 1 - (n + 1) = 0 by omega, upF] at hr
   exact ⟨by rw [← hr]; rfl, HBR.out⟩
end Go.Proofs.Ytleofbidijbahaa.D
