-- MADE by wip/tools/pr2.py for this claim
import Derived.Test.YtchmncgnaiiijaaV0
import Derived.Test.YtchmncgnaiiijaaV1
import Derived.Test.YtchmncgnaiiijaaV6
namespace Go.Proofs.Ytchmncgnaiiijaa.V
open Go.RowKit Go.Proofs.YtchmncgnaiiijaaW.PrintWords Go.Proofs.YtchmncgnaiiijaaW.PrintLast Go.Proofs.YtchmncgnaiiijaaW.PrintMore
attribute [local go_sem] max2_int min2_int max_two min_two max_three min_three max_four min_four   -- for this text's walks alone
set_option linter.unusedVariables false
set_option linter.unusedSimpArgs false

-- GIVENPART
/-! ### fanlightlaw04_alive: function 18 (mine) -/
def fanlightlaw04_alive.f : Option Bool := some true
theorem alive_list : ∃ a b c d : Int, sealBody 1 [97] ++ laidL (sumOf (sealBody 1 [97])) = [1, 0, 0, 1, 97, a, b, c, d] := ⟨_, _, _, _, rfl⟩
theorem alive_sum : Go.bits .xor .u32 4294967295 (sumTo [49, 50, 51, 52, 53, 54, 55, 56, 57]) = 759025838 := by decide +kernel
theorem C_block {W : World} {g : Nat} {cs : Array Value} {fr : Nat × Nat} {l : List Int} (h : W.heap[g]? = some (.cells cs 5 fr)) (hcs : cs = (l.map (Value.int .u8)).toArray) (hl : l.length ≤ 1000) : Kd.C (Kd.int .u8) W (some ⟨g, 0, none⟩) l.length l := by
  refine ⟨rfl, by show l.length ≤ maxLen; unfold maxLen; omega, fun _ => ⟨⟨g, 0, none⟩, rfl, fun j p hj => ?_⟩⟩
  refine ⟨[.int .u8 p], rfl, rfl, fun i u hu => ?_⟩
  match i, hu with
  | 0, hu =>
    cases hu
    rw [add_plain, show (j * (Kd.int .u8).sz + 0) = j from Nat.mul_one j]
    subst hcs
    simp [World.cell?, h, hj]
theorem alive_num (w : World) : Calls Try.prog 21 #[.int .i64 0] w fun e w' => e = .returned (.int .i64 0) ∧ w = w' := by
  go_enter Try.func21, Try.ntmps21
  go_wp2
  go_ret
  exact ⟨rfl, rfl⟩
set_option maxRecDepth 100000 in
set_option maxHeartbeats 4000000 in
theorem fanlightlaw04_alive.calls (r : Bool) (w : World) (h : fanlightlaw04_alive.f = some r) :
    Calls Try.prog 18 #[] w fun e w' => e = .returned (.bool r) ∧ Below w.heap.size w w' := by
  injection h with h
  subst h
  have hcv := fun W : World => Lib.run_convert_bytes_const (P := Try.prog) W 32 5 #[.int .u8 97] 1 1 Try.underlying32 Try.underlying5
  have hcv2 := fun W : World => Lib.run_convert_bytes_const (P := Try.prog) W 32 5 #[.int .u8 49, .int .u8 50, .int .u8 51, .int .u8 52, .int .u8 53, .int .u8 54, .int .u8 55, .int .u8 56, .int .u8 57] 9 9 Try.underlying32 Try.underlying5
  go_enter Try.func18, Try.ntmps18
  go_wp2_with fail
  obtain ⟨q1, q2, q3, q4, hq⟩ := alive_list
  have hb1 := below_alloc (Below.refl w.heap.size w) (.cells #[.int .u8 97] 5 (1, 2))
  refine (put1 1 (some ⟨w.heap.size, 0, none⟩) 1 [97] _ ?side (by simp) (by decide) (by decide) (by simp)).mono ?_
  case side => exact C_block (World.alloc_heap_new w _) rfl (by simp)
  rintro e w1 ⟨v, rfl, ho, hb⟩
  rw [hq] at ho
  obtain ⟨A1, c1, rfl⟩ := Kd.R_slice ho
  have HO := Aside0.mk ho
  have hb2 := hb1.trans (hb.mono (by simp))
  have HB := Aside0.mk hb2
  clear ho hb hb1 hb2 hq
  go_wp2_with fail
  refine (alive_num w1).mono ?_
  rintro e w2 ⟨rfl, rfl⟩
  obtain ⟨i0, hi0, _, hsz, _⟩ := info_parts info5
  have hcut := cut_to (P := Try.prog) 32 5 .i64 Try.underlying32 hi0 A1 9 c1 5 (by omega) (by omega) (Kd.R_reads' HO.out).2.1
  have hst : (convert 32 9 (.slice A1 5 c1)).run Try.prog w1 = .ok (.string ⟨#[1, 0, 0, 1, 97]⟩) w1 := Kd.C_string (P := Try.prog) (c := c1) Try.underlying32 Try.underlying5 Try.underlying9 (Kd.C_take (m := 5) (Kd.R_reads' HO.out).2.2 (by simp))
  go_wp2_with fail
  refine (sum1 (some ⟨w1.heap.size, 0, none⟩) 9 [49, 50, 51, 52, 53, 54, 55, 56, 57] _ (C_block (World.alloc_heap_new w1 _) rfl (by simp)) (by simp)).mono ?_
  rintro e w3 ⟨rfl, hb3⟩
  rw [alive_sum]
  have HB3 := Aside0.mk ((below_alloc HB.out (.cells #[.int .u8 49, .int .u8 50, .int .u8 51, .int .u8 52, .int .u8 53, .int .u8 54, .int .u8 55, .int .u8 56, .int .u8 57] 5 (9, 10))).trans (hb3.mono (by have := below_size HB.out; simp; omega)))
  go_wp2_with fail
  go_ret
  exact ⟨rfl, HB3.out⟩

end Go.Proofs.Ytchmncgnaiiijaa.V
