import Derived.Test.YtkdaeleolomdkaaYV0
import Derived.Test.YtkdaeleolomdkaaYV1
import Derived.Test.YtkdaeleolomdkaaYV2
import Derived.Test.YtkdaeleolomdkaaYV6
namespace Go.Proofs.Ytkdaeleolomdkaa.V
open Go.RowKit Go.Proofs.YtkdaeleolomdkaaW.PrintWords Go.Proofs.YtkdaeleolomdkaaW.PrintLast Go.Proofs.YtkdaeleolomdkaaW.PrintMore
attribute [local go_sem] max2_int min2_int max_two min_two max_three min_three max_four min_four   -- for this text's walks alone
set_option linter.unusedVariables false
set_option linter.unusedSimpArgs false
def octs8 (n : Int) : List Int := [n / 72057594037927936 % 256, n / 281474976710656 % 256, n / 1099511627776 % 256, n / 4294967296 % 256, n / 16777216 % 256, n / 65536 % 256, n / 256 % 256, n % 256]
def snapHead (e s : Int) : List Int := octs8 e ++ octs8 s
def headTo (e s : Int) (k : Nat) : List Int := (snapHead e s).take k ++ List.replicate (16 - k) 0
def slotOf (e s : Int) (l : List Int) : List Int := (sealBody 3 (snapHead e s ++ l) ++ laidL (sumOf (sealBody 3 (snapHead e s ++ l)))) ++ List.replicate (8136 - l.length) 0
def checkOf (e s : Int) (n : Nat) : Int := if e < 0 ∨ s < 0 ∨ 1099511627776 < e ∨ 1099511627776 < s then 4 else if 8000 < n then 5 else 0
theorem check_is (e s : Int) (l : List Int) : snap_Check.f 5 e s l = some (checkOf e s l.length) := by
  have m1 : mn e s < 0 ↔ (e < 0 ∨ s < 0) := by unfold mn; split <;> omega
  have m2 : mx e s > 1099511627776 ↔ (1099511627776 < e ∨ 1099511627776 < s) := by unfold mx; split <;> omega
  unfold snap_Check.f checkOf
  by_cases h1 : e < 0 ∨ s < 0
  · rw [if_pos (m1.2 h1), if_pos (by omega)]
    simp [snap_Check.j0]
  · rw [if_neg (fun h => h1 (m1.1 h))]
    by_cases h2 : 1099511627776 < e ∨ 1099511627776 < s
    · rw [decide_eq_true (m2.2 h2), if_pos (by omega)]
      simp [snap_Check.j0]
    · rw [decide_eq_false (fun h => h2 (m2.1 h)), if_neg (by omega)]
      by_cases h3 : 8000 < l.length
      · rw [if_pos h3]
        simp [snap_Check.j0]
        omega
      · rw [if_neg h3]
        simp [snap_Check.j0]
        omega
def snap_Encode.f (a0_0 a0_1 : Int) (l0_2 : List Int) : Option (List Int × Int) :=
  if checkOf a0_0 a0_1 l0_2.length = 0 then some (slotOf a0_0 a0_1 l0_2, 0) else some ([], checkOf a0_0 a0_1 l0_2.length)
set_option maxRecDepth 100000 in
set_option maxHeartbeats 4000000 in
theorem encode1 (e s : Int) (A : Option Addr) (c : Nat) (l : List Int) (w : World) (hr : Kd.C (Kd.int .u8) w A l.length l) (hc : l.length ≤ c) (hk : checkOf e s l.length = 0) (he0 : 0 ≤ e) (hs0 : 0 ≤ s) (hl : l.length ≤ 8000) :
    Calls Try.prog 15 #[.agg #[.int .i64 e, .int .i64 s, .slice A l.length c]] w fun x w' => ∃ v : Value, x = .returned (.tuple #[v, .int .i64 0]) ∧ Kd.R (Kd.int .u8) 5 w' w.heap.size (fun _ => True) v (slotOf e s l) ∧ Below w.heap.size w w' := by
  have HR := Aside0.mk hr
  have HC := Aside0.mk hc
  have hchk : ∀ W : World, Below w.heap.size w W → Calls Try.prog 24 #[.agg #[.int .i64 e, .int .i64 s, .slice A l.length c]] W fun x w' => x = .returned (.int .i64 0) ∧ Below W.heap.size W w' := by
    intro W hW
    have := snap_Check.calls 5 e s A c l 0 W (Kd.C_below hr hW) hc (by rw [check_is, hk])
    exact this
  have HCH := Aside0.mk hchk
  clear hr hc hchk hk
  go_enter Try.func15, Try.ntmps15
  have HB1 := Aside0.mk (below_alloc (Below.refl w.heap.size w) (.cells #[.int .i64 e, .int .i64 s, .slice A l.length c] 25))
  go_wp2_with fail
  refine (HCH.out _ HB1.out).mono ?_
  rintro x w1 ⟨rfl, hb⟩
  have hblk := (hb.block w.heap.size (by simp)).trans (World.alloc_heap_new w (.cells #[.int .i64 e, .int .i64 s, .slice A l.length c] 25))
  have HB2 := Aside0.mk (HB1.out.trans (hb.mono (by simp)))
  have hww : w.heap.size < w1.heap.size := blk_lt hblk
  have HX := Aside0.mk hblk
  clear hb hblk HB1 HCH
  have y0 : w1.cell? ⟨w.heap.size, 0, none⟩ = some (.int .i64 e) := by simp [World.cell?, HX.out]
  have y1 : w1.cell? ⟨w.heap.size, 1, none⟩ = some (.int .i64 s) := by simp [World.cell?, HX.out]
  have y2 : w1.cell? ⟨w.heap.size, 2, none⟩ = some (.slice A l.length c) := by simp [World.cell?, HX.out]
  go_wp2_with fail
  have hga := World.alloc_heap_new w1 (.cells #[.int .u8 0, .int .u8 0, .int .u8 0, .int .u8 0, .int .u8 0, .int .u8 0, .int .u8 0, .int .u8 0, .int .u8 0, .int .u8 0, .int .u8 0, .int .u8 0, .int .u8 0, .int .u8 0, .int .u8 0, .int .u8 0] 76)
  have hgx := (Below.heap_alloc w1 (.cells #[.int .u8 0, .int .u8 0, .int .u8 0, .int .u8 0, .int .u8 0, .int .u8 0, .int .u8 0, .int .u8 0, .int .u8 0, .int .u8 0, .int .u8 0, .int .u8 0, .int .u8 0, .int .u8 0, .int .u8 0, .int .u8 0] 76) w.heap.size hww).trans HX.out
  have hgb := below_alloc HB2.out (.cells #[.int .u8 0, .int .u8 0, .int .u8 0, .int .u8 0, .int .u8 0, .int .u8 0, .int .u8 0, .int .u8 0, .int .u8 0, .int .u8 0, .int .u8 0, .int .u8 0, .int .u8 0, .int .u8 0, .int .u8 0, .int .u8 0] 76)
  obtain ⟨g, hg⟩ : ∃ g, w1.heap.size = g := ⟨_, rfl⟩
  rw [hg] at hga hww ⊢
  have hne : g ≠ w.heap.size := by omega
  have hne' := hne.symm
  clear y0 y1 y2
  go_loopw [16] (fun i wr => ∃ k : Nat, k ≤ 16 ∧ i = .int .i64 k ∧ Aside0 (wr.heap[g]? = some (.cells ((headTo e s k).map (Value.int .u8)).toArray 76 (0, 0))) ∧ Aside0 (wr.heap[w.heap.size]? = some (.cells #[.int .i64 e, .int .i64 s, .slice A l.length c] 25 (0, 0))) ∧ Aside0 (Below w.heap.size w wr)) (fun i _ => 16 - (intOf i).toNat)
  case atStart => exact ⟨0, by omega, rfl, ⟨hga⟩, ⟨hgx⟩, ⟨hgb⟩⟩
  case round =>
    clear hga hgx hgb HX HB2 hg
    obtain ⟨k, hk, rfl, HA, HX, HB⟩ := hrel
    have y0 : wr.cell? ⟨w.heap.size, 0, none⟩ = some (.int .i64 e) := by simp [World.cell?, HX.out]
    have y1 : wr.cell? ⟨w.heap.size, 1, none⟩ = some (.int .i64 s) := by simp [World.cell?, HX.out]
    have y2 : wr.cell? ⟨w.heap.size, 2, none⟩ = some (.slice A l.length c) := by simp [World.cell?, HX.out]
    by_cases hlt : k < 16
    · have hk16 : k = 0 ∨ k = 1 ∨ k = 2 ∨ k = 3 ∨ k = 4 ∨ k = 5 ∨ k = 6 ∨ k = 7 ∨ k = 8 ∨ k = 9 ∨ k = 10 ∨ k = 11 ∨ k = 12 ∨ k = 13 ∨ k = 14 ∨ k = 15 := by omega
      have zf : ∀ i, wr.frozen? ⟨g, i, none⟩ = false := fun i => by simp [World.frozen?, HA.out]
      rcases hk16 with rfl | rfl | rfl | rfl | rfl | rfl | rfl | rfl | rfl | rfl | rfl | rfl | rfl | rfl | rfl | rfl
      · have z : wr.cell? ⟨g, 0, none⟩ = some (.int .u8 0) := blk_cell HA.out 0
        have hb7 : Go.bits .and .i64 0 7 = 0 := by decide +kernel
        have hm1 : wrap64 (7 - 0) = 7 := by unfold wrap64; omega
        have hm2 : wrap64 (8 * 7) = 56 := by unfold wrap64; omega
        go_wp2
        exact ⟨⟨1, by omega, rfl, ⟨blk_put HA.out 0 _ rfl⟩, ⟨(Below.heap_setCell wr ⟨g, 0, none⟩ _ w.heap.size hne').trans HX.out⟩, ⟨HB.out.setCell (p := ⟨g, 0, none⟩) (Nat.le_of_lt hww) _⟩⟩, by simp [intOf]⟩
      · have z : wr.cell? ⟨g, 1, none⟩ = some (.int .u8 0) := blk_cell HA.out 1
        have hb7 : Go.bits .and .i64 1 7 = 1 := by decide +kernel
        have hm1 : wrap64 (7 - 1) = 6 := by unfold wrap64; omega
        have hm2 : wrap64 (8 * 6) = 48 := by unfold wrap64; omega
        go_wp2
        exact ⟨⟨2, by omega, rfl, ⟨blk_put HA.out 1 _ rfl⟩, ⟨(Below.heap_setCell wr ⟨g, 1, none⟩ _ w.heap.size hne').trans HX.out⟩, ⟨HB.out.setCell (p := ⟨g, 1, none⟩) (Nat.le_of_lt hww) _⟩⟩, by simp [intOf]⟩
      · have z : wr.cell? ⟨g, 2, none⟩ = some (.int .u8 0) := blk_cell HA.out 2
        have hb7 : Go.bits .and .i64 2 7 = 2 := by decide +kernel
        have hm1 : wrap64 (7 - 2) = 5 := by unfold wrap64; omega
        have hm2 : wrap64 (8 * 5) = 40 := by unfold wrap64; omega
        go_wp2
        exact ⟨⟨3, by omega, rfl, ⟨blk_put HA.out 2 _ rfl⟩, ⟨(Below.heap_setCell wr ⟨g, 2, none⟩ _ w.heap.size hne').trans HX.out⟩, ⟨HB.out.setCell (p := ⟨g, 2, none⟩) (Nat.le_of_lt hww) _⟩⟩, by simp [intOf]⟩
      · have z : wr.cell? ⟨g, 3, none⟩ = some (.int .u8 0) := blk_cell HA.out 3
        have hb7 : Go.bits .and .i64 3 7 = 3 := by decide +kernel
        have hm1 : wrap64 (7 - 3) = 4 := by unfold wrap64; omega
        have hm2 : wrap64 (8 * 4) = 32 := by unfold wrap64; omega
        go_wp2
        exact ⟨⟨4, by omega, rfl, ⟨blk_put HA.out 3 _ rfl⟩, ⟨(Below.heap_setCell wr ⟨g, 3, none⟩ _ w.heap.size hne').trans HX.out⟩, ⟨HB.out.setCell (p := ⟨g, 3, none⟩) (Nat.le_of_lt hww) _⟩⟩, by simp [intOf]⟩
      · have z : wr.cell? ⟨g, 4, none⟩ = some (.int .u8 0) := blk_cell HA.out 4
        have hb7 : Go.bits .and .i64 4 7 = 4 := by decide +kernel
        have hm1 : wrap64 (7 - 4) = 3 := by unfold wrap64; omega
        have hm2 : wrap64 (8 * 3) = 24 := by unfold wrap64; omega
        go_wp2
        exact ⟨⟨5, by omega, rfl, ⟨blk_put HA.out 4 _ rfl⟩, ⟨(Below.heap_setCell wr ⟨g, 4, none⟩ _ w.heap.size hne').trans HX.out⟩, ⟨HB.out.setCell (p := ⟨g, 4, none⟩) (Nat.le_of_lt hww) _⟩⟩, by simp [intOf]⟩
      · have z : wr.cell? ⟨g, 5, none⟩ = some (.int .u8 0) := blk_cell HA.out 5
        have hb7 : Go.bits .and .i64 5 7 = 5 := by decide +kernel
        have hm1 : wrap64 (7 - 5) = 2 := by unfold wrap64; omega
        have hm2 : wrap64 (8 * 2) = 16 := by unfold wrap64; omega
        go_wp2
        exact ⟨⟨6, by omega, rfl, ⟨blk_put HA.out 5 _ rfl⟩, ⟨(Below.heap_setCell wr ⟨g, 5, none⟩ _ w.heap.size hne').trans HX.out⟩, ⟨HB.out.setCell (p := ⟨g, 5, none⟩) (Nat.le_of_lt hww) _⟩⟩, by simp [intOf]⟩
      · have z : wr.cell? ⟨g, 6, none⟩ = some (.int .u8 0) := blk_cell HA.out 6
        have hb7 : Go.bits .and .i64 6 7 = 6 := by decide +kernel
        have hm1 : wrap64 (7 - 6) = 1 := by unfold wrap64; omega
        have hm2 : wrap64 (8 * 1) = 8 := by unfold wrap64; omega
        go_wp2
        exact ⟨⟨7, by omega, rfl, ⟨blk_put HA.out 6 _ rfl⟩, ⟨(Below.heap_setCell wr ⟨g, 6, none⟩ _ w.heap.size hne').trans HX.out⟩, ⟨HB.out.setCell (p := ⟨g, 6, none⟩) (Nat.le_of_lt hww) _⟩⟩, by simp [intOf]⟩
      · have z : wr.cell? ⟨g, 7, none⟩ = some (.int .u8 0) := blk_cell HA.out 7
        have hb7 : Go.bits .and .i64 7 7 = 7 := by decide +kernel
        have hm1 : wrap64 (7 - 7) = 0 := by unfold wrap64; omega
        have hm2 : wrap64 (8 * 0) = 0 := by unfold wrap64; omega
        go_wp2
        exact ⟨⟨8, by omega, rfl, ⟨blk_put HA.out 7 _ rfl⟩, ⟨(Below.heap_setCell wr ⟨g, 7, none⟩ _ w.heap.size hne').trans HX.out⟩, ⟨HB.out.setCell (p := ⟨g, 7, none⟩) (Nat.le_of_lt hww) _⟩⟩, by simp [intOf]⟩
      · have z : wr.cell? ⟨g, 8, none⟩ = some (.int .u8 0) := blk_cell HA.out 8
        have hb7 : Go.bits .and .i64 8 7 = 0 := by decide +kernel
        have hm1 : wrap64 (7 - 0) = 7 := by unfold wrap64; omega
        have hm2 : wrap64 (8 * 7) = 56 := by unfold wrap64; omega
        go_wp2
        exact ⟨⟨9, by omega, rfl, ⟨blk_put HA.out 8 _ rfl⟩, ⟨(Below.heap_setCell wr ⟨g, 8, none⟩ _ w.heap.size hne').trans HX.out⟩, ⟨HB.out.setCell (p := ⟨g, 8, none⟩) (Nat.le_of_lt hww) _⟩⟩, by simp [intOf]⟩
      · have z : wr.cell? ⟨g, 9, none⟩ = some (.int .u8 0) := blk_cell HA.out 9
        have hb7 : Go.bits .and .i64 9 7 = 1 := by decide +kernel
        have hm1 : wrap64 (7 - 1) = 6 := by unfold wrap64; omega
        have hm2 : wrap64 (8 * 6) = 48 := by unfold wrap64; omega
        go_wp2
        exact ⟨⟨10, by omega, rfl, ⟨blk_put HA.out 9 _ rfl⟩, ⟨(Below.heap_setCell wr ⟨g, 9, none⟩ _ w.heap.size hne').trans HX.out⟩, ⟨HB.out.setCell (p := ⟨g, 9, none⟩) (Nat.le_of_lt hww) _⟩⟩, by simp [intOf]⟩
      · have z : wr.cell? ⟨g, 10, none⟩ = some (.int .u8 0) := blk_cell HA.out 10
        have hb7 : Go.bits .and .i64 10 7 = 2 := by decide +kernel
        have hm1 : wrap64 (7 - 2) = 5 := by unfold wrap64; omega
        have hm2 : wrap64 (8 * 5) = 40 := by unfold wrap64; omega
        go_wp2
        exact ⟨⟨11, by omega, rfl, ⟨blk_put HA.out 10 _ rfl⟩, ⟨(Below.heap_setCell wr ⟨g, 10, none⟩ _ w.heap.size hne').trans HX.out⟩, ⟨HB.out.setCell (p := ⟨g, 10, none⟩) (Nat.le_of_lt hww) _⟩⟩, by simp [intOf]⟩
      · have z : wr.cell? ⟨g, 11, none⟩ = some (.int .u8 0) := blk_cell HA.out 11
        have hb7 : Go.bits .and .i64 11 7 = 3 := by decide +kernel
        have hm1 : wrap64 (7 - 3) = 4 := by unfold wrap64; omega
        have hm2 : wrap64 (8 * 4) = 32 := by unfold wrap64; omega
        go_wp2
        exact ⟨⟨12, by omega, rfl, ⟨blk_put HA.out 11 _ rfl⟩, ⟨(Below.heap_setCell wr ⟨g, 11, none⟩ _ w.heap.size hne').trans HX.out⟩, ⟨HB.out.setCell (p := ⟨g, 11, none⟩) (Nat.le_of_lt hww) _⟩⟩, by simp [intOf]⟩
      · have z : wr.cell? ⟨g, 12, none⟩ = some (.int .u8 0) := blk_cell HA.out 12
        have hb7 : Go.bits .and .i64 12 7 = 4 := by decide +kernel
        have hm1 : wrap64 (7 - 4) = 3 := by unfold wrap64; omega
        have hm2 : wrap64 (8 * 3) = 24 := by unfold wrap64; omega
        go_wp2
        exact ⟨⟨13, by omega, rfl, ⟨blk_put HA.out 12 _ rfl⟩, ⟨(Below.heap_setCell wr ⟨g, 12, none⟩ _ w.heap.size hne').trans HX.out⟩, ⟨HB.out.setCell (p := ⟨g, 12, none⟩) (Nat.le_of_lt hww) _⟩⟩, by simp [intOf]⟩
      · have z : wr.cell? ⟨g, 13, none⟩ = some (.int .u8 0) := blk_cell HA.out 13
        have hb7 : Go.bits .and .i64 13 7 = 5 := by decide +kernel
        have hm1 : wrap64 (7 - 5) = 2 := by unfold wrap64; omega
        have hm2 : wrap64 (8 * 2) = 16 := by unfold wrap64; omega
        go_wp2
        exact ⟨⟨14, by omega, rfl, ⟨blk_put HA.out 13 _ rfl⟩, ⟨(Below.heap_setCell wr ⟨g, 13, none⟩ _ w.heap.size hne').trans HX.out⟩, ⟨HB.out.setCell (p := ⟨g, 13, none⟩) (Nat.le_of_lt hww) _⟩⟩, by simp [intOf]⟩
      · have z : wr.cell? ⟨g, 14, none⟩ = some (.int .u8 0) := blk_cell HA.out 14
        have hb7 : Go.bits .and .i64 14 7 = 6 := by decide +kernel
        have hm1 : wrap64 (7 - 6) = 1 := by unfold wrap64; omega
        have hm2 : wrap64 (8 * 1) = 8 := by unfold wrap64; omega
        go_wp2
        exact ⟨⟨15, by omega, rfl, ⟨blk_put HA.out 14 _ rfl⟩, ⟨(Below.heap_setCell wr ⟨g, 14, none⟩ _ w.heap.size hne').trans HX.out⟩, ⟨HB.out.setCell (p := ⟨g, 14, none⟩) (Nat.le_of_lt hww) _⟩⟩, by simp [intOf]⟩
      · have z : wr.cell? ⟨g, 15, none⟩ = some (.int .u8 0) := blk_cell HA.out 15
        have hb7 : Go.bits .and .i64 15 7 = 7 := by decide +kernel
        have hm1 : wrap64 (7 - 7) = 0 := by unfold wrap64; omega
        have hm2 : wrap64 (8 * 0) = 0 := by unfold wrap64; omega
        go_wp2
        exact ⟨⟨16, by omega, rfl, ⟨blk_put HA.out 15 _ rfl⟩, ⟨(Below.heap_setCell wr ⟨g, 15, none⟩ _ w.heap.size hne').trans HX.out⟩, ⟨HB.out.setCell (p := ⟨g, 15, none⟩) (Nat.le_of_lt hww) _⟩⟩, by simp [intOf]⟩
    · obtain rfl : k = 16 := by omega
      have hA := HA.out
      rw [show headTo e s 16 = snapHead e s from rfl] at hA
      have hW2 : ∀ W : World, W = (wr.alloc (.cells #[.slice (some ⟨g, 0, none⟩) 16 16, .slice A l.length c] 22)).drew → Kd.C (Kd.slice 5 (Kd.int .u8)) W (some ⟨wr.heap.size, 0, none⟩) 2 [snapHead e s, l] ∧ Below w.heap.size w W ∧ W.heap[w.heap.size]? = some (.cells #[.int .i64 e, .int .i64 s, .slice A l.length c] 25 (0, 0)) := by
        intro W hW
        have hn : W.heap[wr.heap.size]? = _ := (show W.heap[wr.heap.size]? = (wr.alloc (.cells #[.slice (some ⟨g, 0, none⟩) 16 16, .slice A l.length c] 22)).heap[wr.heap.size]? by rw [hW]; rfl).trans (World.alloc_heap_new wr (.cells #[.slice (some ⟨g, 0, none⟩) 16 16, .slice A l.length c] 22))
        have hB : Below w.heap.size w W := by rw [hW]; exact below_drew1 (below_alloc HB.out _)
        have hg2 : W.heap[g]? = _ := (show W.heap[g]? = (wr.alloc (.cells #[.slice (some ⟨g, 0, none⟩) 16 16, .slice A l.length c] 22)).heap[g]? by rw [hW]; rfl).trans ((Below.heap_alloc wr _ g (blk_lt hA)).trans hA)
        have hx2 : W.heap[w.heap.size]? = _ := (show W.heap[w.heap.size]? = (wr.alloc (.cells #[.slice (some ⟨g, 0, none⟩) 16 16, .slice A l.length c] 22)).heap[w.heap.size]? by rw [hW]; rfl).trans ((Below.heap_alloc wr _ w.heap.size (blk_lt HX.out)).trans HX.out)
        refine ⟨?_, hB, hx2⟩
        refine C_two (A1 := some ⟨g, 0, none⟩) (c1 := 16) (A2 := A) (c2 := c) ?_ ?_ (by simp [snapHead, octs8]) HC.out ?_ (Kd.C_below HR.out hB)
        · simp [World.cell?, hn, snapHead, octs8]
        · simp [World.cell?, hn]
        · refine ⟨rfl, by simp [snapHead, octs8], fun _ => ⟨⟨g, 0, none⟩, rfl, fun j p hj => ⟨[.int .u8 p], rfl, rfl, fun i u hu => ?_⟩⟩⟩
          have hj16 : j < 16 := (List.getElem?_eq_some_iff.1 hj).1
          cases i with
          | zero =>
            cases hu
            rw [add_plain]
            have e1 : 0 + (j * (Kd.int .u8).sz + 0) = j := by show 0 + (j * 1 + 0) = j; omega
            simp only [World.cell?, hg2, e1]
            simp
            rw [show (Kd.int .u8).sz = 1 from rfl, Nat.mul_one]
            exact hj
          | succ i => simp at hu
      have HW2 := Aside0.mk hW2
      clear hA hW2
      have hcf : slices_Concat_byte_byte.f [snapHead e s, l] = some (snapHead e s ++ l) := by
        unfold slices_Concat_byte_byte.f
        rw [if_pos (by simp [snapHead, octs8]; omega)]
        simp
      have hl3 : (snapHead e s ++ l).length = l.length + 16 := by simp [snapHead, octs8]
      obtain ⟨D, hD⟩ : ∃ D, snapHead e s ++ l = D := ⟨_, rfl⟩
      rw [hD] at hl3 hcf
      have HD := Lib.hid hD
      have HCF := Aside0.mk hcf
      have HL3 := Lib.hid hl3
      clear hD hcf hl3
      go_wp2
      go_region_held3 (fun w' => w'.cell? ⟨w.heap.size, 2, none⟩ = some (.slice A l.length c)) (first | exact (blk_cell HXB.out 2) | exact (blk_cell HXA.out 2) | exact (blk_cell (HW2.out _ rfl).2.2 2) | go_keep) ((first | (go_at_call 41; refine (slices_Concat_byte_byte.calls _ 2 [snapHead e s, l] D _ (HW2.out _ rfl).1 (Nat.le_refl _) HCF.out).mono ?_; rintro x wA ⟨vA, rfl, hoA, hbA⟩; have HOA := Aside0.mk (Kd.R_lower hoA (HW2.out _ rfl).2.1.size); have HBA := Aside0.mk ((HW2.out _ rfl).2.1.trans (hbA.mono (HW2.out _ rfl).2.1.size)); have HXA := Aside0.mk ((hbA.block w.heap.size (blk_lt (HW2.out _ rfl).2.2)).trans (HW2.out _ rfl).2.2); obtain ⟨AA, cA, rfl⟩ := Kd.R_slice HOA.out; clear hoA hbA) | (go_at_call 40; refine (put1 3 AA cA D wA (Kd.R_reads' HOA.out).2.2 (Kd.R_reads' HOA.out).2.1 (by decide) (by decide) (by have := HL3.out; omega)).mono ?_; rintro x wB ⟨vB, rfl, hoB, hbB⟩; have HOB := Aside0.mk (Kd.R_lower hoB HBA.out.size); have HBB := Aside0.mk (HBA.out.trans (hbB.mono HBA.out.size)); have HXB := Aside0.mk ((hbB.block w.heap.size (blk_lt HXA.out)).trans HXA.out); clear hoB hbB)))
      obtain ⟨AB, cB, rfl⟩ := Kd.R_slice HOB.out
      have hZl : (sealBody 3 D ++ laidL (sumOf (sealBody 3 D))).length = l.length + 24 := by have := HL3.out; simp [sealBody, sealHead, laidL]; omega
      have hZs : slotOf e s l = (sealBody 3 D ++ laidL (sumOf (sealBody 3 D))) ++ List.replicate (8136 - l.length) 0 := by unfold slotOf; rw [HD.out]
      obtain ⟨Z, hZ⟩ : ∃ Z, sealBody 3 D ++ laidL (sumOf (sealBody 3 D)) = Z := ⟨_, rfl⟩
      rw [hZ] at hZl hZs HOB ⊢
      have HZL := Lib.hid hZl
      have HZS := Lib.hid hZs
      clear hZ hZl hZs HD HCF HL3 HW2
      go_wp2_with (first | ((with_reducible refine gate_dst (N := 45) rfl ?_); refine Kd.R_make (Kd.int .u8) (w0 := w) w.heap.size 5 rfl (N := 45) rfl 22 _ _ rfl 8160 rfl rfl Try.underlying22 (.int .u8 0) 1 info5 rfl (by decide) (by omega) 0 (ok := fun k => wB.heap.size ≤ k) (okp := fun _ => False) rfl (fun _ hk => hk.elim) (Nat.le_refl _) (by omega) (by omega) HBB.out HBB.out.size ?_; intro v1 wC hoC hbC hgC hfC; have HOC := Aside0.mk hoC; have HBC := Aside0.mk hbC; have HOZ := Aside0.mk (Kd.R_grown HOB.out hgC (fun _ _ => by simp)); clear hoC hbC hgC hfC) | ((with_reducible refine gate_builtin (b := .copy) (xs := #[.tmp 46, .tmp 47]) rfl ?_); go_loud (refine Kd.R_copy (enc := Value.int .u8) (h1 := fun _ => rfl) (0 : Int) (w0 := w) w.heap.size rfl (.tmp 46) (.tmp 47) 22 22 5 rfl Try.underlying22 (by kernel_rfl) v1 (List.replicate (8160 : Int).toNat 0) Z AB Z.length cB _ rfl rfl HOC.out (Kd.R_reads' HOZ.out).2.2 HBC.out HBC.out.size ?_; intro wD hoD hbD hgD; have HOD := Aside0.mk hoD; have HBD := Aside0.mk hbD; clear hoD hbD hgD)))
      have hfin : List.take (min Z.length (List.replicate (Int.toNat 8160) (0 : Int)).length) Z ++ (List.replicate (Int.toNat 8160) (0 : Int)).drop (min Z.length (List.replicate (Int.toNat 8160) (0 : Int)).length) = slotOf e s l := by
        have h1 := HZL.out
        rw [HZS.out, List.length_replicate, show Int.toNat 8160 = 8160 from rfl, Nat.min_eq_left (by omega), List.take_length, List.drop_replicate, h1]
        congr 2
        omega
      have hO := HOD.out
      rw [hfin] at hO
      have HO := Aside0.mk hO
      clear hO hfin
      go_ret2
      exact ⟨_, rfl, Kd.R_mono HO.out (fun _ _ => trivial), HBD.out⟩
set_option maxHeartbeats 1000000 in
theorem encode0 (e s : Int) (A : Option Addr) (c : Nat) (l : List Int) (w : World) (hr : Kd.C (Kd.int .u8) w A l.length l) (hc : l.length ≤ c) (z : Int) (hz : checkOf e s l.length = z) (hk : ¬ z = 0) :
    Calls Try.prog 15 #[.agg #[.int .i64 e, .int .i64 s, .slice A l.length c]] w fun x w' => ∃ v : Value, x = .returned (.tuple #[v, .int .i64 z]) ∧ Kd.R (Kd.int .u8) 5 w' w.heap.size (fun _ => True) v [] ∧ Below w.heap.size w w' := by
  have hchk : ∀ W : World, Below w.heap.size w W → Calls Try.prog 24 #[.agg #[.int .i64 e, .int .i64 s, .slice A l.length c]] W fun x w' => x = .returned (.int .i64 z) ∧ Below W.heap.size W w' := by
    intro W hW
    exact snap_Check.calls 5 e s A c l z W (Kd.C_below hr hW) hc (by rw [check_is, hz])
  have HCH := Aside0.mk hchk
  have hk1 : (z == 0) = false := beq_eq_false_iff_ne.mpr hk
  have hk2 : (z != 0) = true := bne_iff_ne.mpr hk
  clear hr hc hchk hz
  go_enter Try.func15, Try.ntmps15
  have HB1 := Aside0.mk (below_alloc (Below.refl w.heap.size w) (.cells #[.int .i64 e, .int .i64 s, .slice A l.length c] 25))
  go_wp2_with fail
  refine (HCH.out _ HB1.out).mono ?_
  rintro x w1 ⟨rfl, hb⟩
  have HB2 := Aside0.mk (HB1.out.trans (hb.mono (by simp)))
  go_wp2_with fail
  go_ret2
  exact ⟨_, rfl, Kd.R_nil _ _ _ _ _, HB2.out⟩
theorem snap_Encode.calls (a0_0 : Int) (a0_1 : Int) (A0_2 : Option Addr) (c0_2 : Nat) (l0_2 : List Int) (r0 : List Int) (r1 : Int) (w : World) (hr0_2 : Kd.C (Kd.int .u8) w A0_2 l0_2.length l0_2) (hc0_2 : l0_2.length ≤ c0_2) (h : snap_Encode.f a0_0 a0_1 l0_2 = some (r0, r1)) :
    Calls Try.prog 15 #[.agg #[.int .i64 a0_0, .int .i64 a0_1, .slice A0_2 l0_2.length c0_2]] w fun e w' => ∃ v0_ : Value, e = .returned (.tuple #[v0_, .int .i64 r1]) ∧ Kd.R (Kd.int .u8) 5 w' w.heap.size (fun _ => True) v0_ r0 ∧ Below w.heap.size w w' := by
  unfold snap_Encode.f at h
  split at h
  · rename_i h0
    injection h with h
    injection h with h1 h2
    subst h1 h2
    have hb : 0 ≤ a0_0 ∧ 0 ≤ a0_1 ∧ l0_2.length ≤ 8000 := by
      unfold checkOf at h0
      split at h0
      · cases h0
      · split at h0
        · cases h0
        · omega
    exact encode1 a0_0 a0_1 A0_2 c0_2 l0_2 w hr0_2 hc0_2 h0 hb.1 hb.2.1 hb.2.2
  · rename_i h0
    injection h with h
    injection h with h1 h2
    subst h1 h2
    exact encode0 a0_0 a0_1 A0_2 c0_2 l0_2 w hr0_2 hc0_2 _ rfl h0
end Go.Proofs.Ytkdaeleolomdkaa.V
