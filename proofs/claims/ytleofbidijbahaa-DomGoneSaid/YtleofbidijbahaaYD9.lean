import Derived.Test.YtleofbidijbahaaYD0
import Derived.Test.YtleofbidijbahaaYD3
import Derived.Test.YtleofbidijbahaaYD10
namespace Go.Proofs.Ytleofbidijbahaa.D
open Go.RowKit Go.Proofs.YtleofbidijbahaaW.PrintWords Go.Proofs.YtleofbidijbahaaW.PrintLast Go.Proofs.YtleofbidijbahaaW.PrintMore
attribute [local go_sem] max2_int min2_int max_two min_two max_three min_three max_four min_four   -- for this text's walks alone
set_option linter.unusedVariables false
set_option linter.unusedSimpArgs false
def rootedF (ns : List S63) : Nat → Int → Bool
 | 0, p => decide (p = 0)
 | k + 1, p => if p = 0 then true else match nodeOf ns p with
  | none => false
  | some x => rootedF ns k x.f1
set_option maxRecDepth 100000 in
set_option maxHeartbeats 4000000 in
theorem rooted_is (g : Nat) (rv nv : Value) (ns : List S63) (A : Option Addr) (c : Nat) (x : S63) (B5 : Option Addr) (d5 : Nat) (B6 : Option Addr) (d6 : Nat) (w : World) (hg : w.heap[g]? = some (.cells #[.slice A ns.length c, rv, nv] 28 (0, 0))) (hC : Kd.C k63 w A ns.length ns) (hl : ns.length ≤ 100000) (hs : Rises ns) :
  Calls Try.prog 79 #[.pointer (some ⟨g, 0, none⟩), .agg #[.int .i64 x.f0, .int .i64 x.f1, .string x.f2, .string x.f3, .string x.f4, .slice B5 x.f5.length d5, .slice B6 x.f6.length d6]] w fun e w' => e = .returned (.bool (rootedF ns ns.length x.f1)) ∧ Below w.heap.size w w' := by
 have HC := Aside0.mk hC
 have HG := Aside0.mk hg
 have HS := Aside0.mk hs
 obtain ⟨n, hn⟩ : ∃ n, ns.length = n := ⟨_, rfl⟩
 have HN := Lib.hid hn
 rw [hn] at HG HC hl ⊢
 obtain ⟨R, hR⟩ : ∃ R, rootedF ns n x.f1 = R := ⟨_, rfl⟩
 rw [hR]
 have HR := Lib.hid hR
 clear hC hs hn hR hg
 have HG1 : Aside0 ((w.alloc (.cells #[.int .i64 x.f0, .int .i64 x.f1, .string x.f2, .string x.f3, .string x.f4, .slice B5 x.f5.length d5, .slice B6 x.f6.length d6] 63)).heap[g]? = some (.cells #[.slice A n c, rv, nv] 28 (0, 0))) := ⟨(Below.heap_alloc w _ g (Array.getElem?_eq_some_iff.1 HG.out).1).trans HG.out⟩
 have y0 : (w.alloc (.cells #[.int .i64 x.f0, .int .i64 x.f1, .string x.f2, .string x.f3, .string x.f4, .slice B5 x.f5.length d5, .slice B6 x.f6.length d6] 63)).cell? ⟨g, 0, none⟩ = some (.slice A n c) := blk_cell HG1.out 0
 go_enter Try.func79, Try.ntmps79
 go_wp2_with fail
 go_loopw [11] (fun vj wr => ∃ (j : Nat) (y : S63) (B5 : Option Addr) (d5 : Nat) (B6 : Option Addr) (d6 : Nat), j ≤ n ∧ vj = .int .i64 j ∧ Aside0 (rootedF ns (n - j) y.f1 = R) ∧ Aside0 (wr.heap[w.heap.size]? = some (.cells #[.int .i64 y.f0, .int .i64 y.f1, .string y.f2, .string y.f3, .string y.f4, .slice B5 y.f5.length d5, .slice B6 y.f6.length d6] 63 (0, 0))) ∧ Aside0 (Below w.heap.size w wr)) (fun vj _ => n - (intOf vj).toNat)
 case atStart => exact ⟨0, x, B5, d5, B6, d6, by omega, rfl, ⟨HR.out⟩, ⟨World.alloc_heap_new w _⟩, ⟨(Below.refl _ _).alloc (Nat.le_refl _) _⟩⟩
 case round =>
  obtain ⟨j, y, C5, i5, C6, i6, hj, rfl, HR, HK, HBR⟩ := hrel
  have hlp : w.heap.size ≤ wr.heap.size := HBR.out.size
  have HGr : Aside0 (wr.heap[g]? = some (.cells #[.slice A n c, rv, nv] 28 (0, 0))) := ⟨(HBR.out.block g (Array.getElem?_eq_some_iff.1 HG.out).1).trans HG.out⟩
  have HCr : Aside0 (Kd.C k63 wr A n ns) := ⟨Kd.C_below HC.out HBR.out⟩
  obtain ⟨z, hz⟩ : ∃ z, y.f1 = z := ⟨_, rfl⟩
  rw [hz] at HR HK
  have y1 : wr.cell? ⟨w.heap.size, 1, none⟩ = some (.int .i64 z) := blk_cell HK.out 1
  by_cases hlt : j < n
  ·
   obtain ⟨k, hk⟩ : ∃ k, n - j = k + 1 := ⟨n - j - 1, by omega⟩
   have hk2 : n - (j + 1) = k := by omega
   have hd1 : decide ((j : Int) < (n : Int)) = true := decide_eq_true (by omega)
   rw [hk, rootedF] at HR
   by_cases hz0 : z = 0
   ·
    have hr := HR.out
    rw [if_pos hz0] at hr
    have HR2 := Aside0.mk hr
    subst hz0
    clear hr HR
    go_wp2_with fail
    go_ret
    exact ⟨(show Ending.returned (.bool true) = _ by rw [← HR2.out]), HBR.out⟩
   ·
    have hr := HR.out
    rw [if_neg hz0] at hr
    have HR := Aside0.mk hr
    clear hr
    have hd0 : decide (z = 0) = false := decide_eq_false hz0
    have HCALL := Aside0.mk (find_is g rv nv ns A c z wr (by rw [HN.out]; exact HGr.out) (by rw [HN.out]; exact HCr.out) (by rw [HN.out]; exact hl) HS.out)
    cases hno : nodeOf ns z with
    | none =>
     rw [findV_none hno] at HCALL
     rw [hno] at HR
     go_wp2_with fail
     refine HCALL.out.mono ?_
     rintro e w5 ⟨rfl, hb5⟩
     have HB5 := Aside0.mk (HBR.out.trans (hb5.mono hlp))
     clear hb5 HCALL
     go_wp2_with fail
     go_ret
     exact ⟨(show Ending.returned (.bool false) = _ by rw [← HR.out]), HB5.out⟩
    | some x =>
     obtain ⟨ad, L, A5, c5, A6, c6, rfl, -, -, -, -, hfv, e0, e1, e2, e3, e4, e5, e6, -⟩ := findV_some HCr.out HN.out hno
     rw [hfv] at HCALL
     rw [hno] at HR
     go_wp2_with fail
     refine HCALL.out.mono ?_
     rintro e w5 ⟨rfl, hb5⟩
     have HB5 := Aside0.mk (HBR.out.trans (hb5.mono hlp))
     replace e0 := pw_cell_below hb5 e0
     replace e1 := pw_cell_below hb5 e1
     replace e2 := pw_cell_below hb5 e2
     replace e3 := pw_cell_below hb5 e3
     replace e4 := pw_cell_below hb5 e4
     replace e5 := pw_cell_below hb5 e5
     replace e6 := pw_cell_below hb5 e6
     have HK5 := Aside0.mk ((hb5.block _ (blk_lt HK.out)).trans HK.out)
     have q0 : w5.cell? ⟨w.heap.size, 0, none⟩ = _ := blk_cell HK5.out 0
     have t0 : w5.frozen? ⟨w.heap.size, 0, none⟩ = false := blk_frozen HK5.out 0
     have q1 : w5.cell? ⟨w.heap.size, 1, none⟩ = _ := blk_cell HK5.out 1
     have t1 : w5.frozen? ⟨w.heap.size, 1, none⟩ = false := blk_frozen HK5.out 1
     have q2 : w5.cell? ⟨w.heap.size, 2, none⟩ = _ := blk_cell HK5.out 2
     have t2 : w5.frozen? ⟨w.heap.size, 2, none⟩ = false := blk_frozen HK5.out 2
     have q3 : w5.cell? ⟨w.heap.size, 3, none⟩ = _ := blk_cell HK5.out 3
     have t3 : w5.frozen? ⟨w.heap.size, 3, none⟩ = false := blk_frozen HK5.out 3
     have q4 : w5.cell? ⟨w.heap.size, 4, none⟩ = _ := blk_cell HK5.out 4
     have t4 : w5.frozen? ⟨w.heap.size, 4, none⟩ = false := blk_frozen HK5.out 4
     have q5 : w5.cell? ⟨w.heap.size, 5, none⟩ = _ := blk_cell HK5.out 5
     have t5 : w5.frozen? ⟨w.heap.size, 5, none⟩ = false := blk_frozen HK5.out 5
     have q6 : w5.cell? ⟨w.heap.size, 6, none⟩ = _ := blk_cell HK5.out 6
     have t6 : w5.frozen? ⟨w.heap.size, 6, none⟩ = false := blk_frozen HK5.out 6
     have HB6 := Aside0.mk (((((((HB5.out.setCell (p := ⟨w.heap.size, 0, none⟩) (Nat.le_refl _) (.int .i64 x.f0)).setCell (p := ⟨w.heap.size, 1, none⟩) (Nat.le_refl _) (.int .i64 x.f1)).setCell (p := ⟨w.heap.size, 2, none⟩) (Nat.le_refl _) (.string x.f2)).setCell (p := ⟨w.heap.size, 3, none⟩) (Nat.le_refl _) (.string x.f3)).setCell (p := ⟨w.heap.size, 4, none⟩) (Nat.le_refl _) (.string x.f4)).setCell (p := ⟨w.heap.size, 5, none⟩) (Nat.le_refl _) (.slice A5 x.f5.length c5)).setCell (p := ⟨w.heap.size, 6, none⟩) (Nat.le_refl _) (.slice A6 x.f6.length c6))
     have HK6 := Aside0.mk (blk_set (blk_set (blk_set (blk_set (blk_set (blk_set (blk_set HK5.out 0 (.int .i64 x.f0)) 1 (.int .i64 x.f1)) 2 (.string x.f2)) 3 (.string x.f3)) 4 (.string x.f4)) 5 (.slice A5 x.f5.length c5)) 6 (.slice A6 x.f6.length c6))
     clear hb5 HCALL
     go_wp2_with fail
     exact ⟨⟨j + 1, x, A5, c5, A6, c6, by omega, rfl, ⟨by rw [hk2]; exact HR.out⟩, ⟨HK6.out⟩, HB6⟩, by simp only [intOf]; omega⟩
  ·
   obtain rfl : j = n := by omega
   have hd1 : decide ((j : Int) < (j : Int)) = false := decide_eq_false (by omega)
   go_wp2_with fail
   go_ret
   have hr := HR.out
   rw [show j - j = 0 by omega, rootedF] at hr
   exact ⟨(show Ending.returned (.bool (z == 0)) = _ by rw [← hr]; rfl), HBR.out⟩
end Go.Proofs.Ytleofbidijbahaa.D
