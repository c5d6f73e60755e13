import Derived.Test.YtleofbidijbahaaYD0
import Derived.Test.YtleofbidijbahaaYD7
import Derived.Test.YtleofbidijbahaaYD40
import Derived.Test.YtleofbidijbahaaYD42
import Derived.Test.YtleofbidijbahaaYD43
namespace Go.Proofs.Ytleofbidijbahaa.D
open Go.RowKit Go.Proofs.YtleofbidijbahaaW.PrintWords Go.Proofs.YtleofbidijbahaaW.PrintLast Go.Proofs.YtleofbidijbahaaW.PrintMore
attribute [local go_sem] max2_int min2_int max_two min_two max_three min_three max_four min_four   -- for this text's walks alone
set_option linter.unusedVariables false
set_option linter.unusedSimpArgs false
def badR (ms : List S64) (nx : Int) (j : Nat) (y : S64) : Bool := if y.f0 < 1 then true else if y.f0 ≥ nx then true else if 0 < j ∧ y.f0 ≤ (rd_T64 ms ((j : Int) - 1)).f0 then true else if plainB y.f2 y.f3 y.f4 y.f5 = false then true else !kidsR ms y
def homeR (ms : List S64) (y : S64) : Bool := if y.f1 = 0 then true else if placeR y.f1 ms 0 < 0 then false else if inR y.f0 (rd_T64 ms (placeR y.f1 ms 0)).f6 0 < 0 then false else !loopsR ms y
def checkRL (ms : List S64) (nx : Int) : Nat → List S64 → Bool
 | _, [] => true
 | j, y :: ys => if badR ms nx j y = true then false else if homeR ms y = true then checkRL ms nx (j + 1) ys else false
def rootR (ms : List S64) (r : Int) : Bool := if r = 0 then true else if placeR r ms 0 < 0 then false else if (rd_T64 ms (placeR r ms 0)).f2.toList = [] then false else decide ((rd_T64 ms (placeR r ms 0)).f1 = 0)
def checkR (ms : List S64) (r nx : Int) : Int := if nx < 1 then 9 else if nx > 2147483647 then 9 else if 1024 < ms.length then 9 else if checkRL ms nx 0 ms = true then (if rootR ms r = true then 0 else 9) else 9
set_option maxRecDepth 100000 in
set_option maxHeartbeats 16000000 in
theorem checkR_is (B : Option Addr) (d m : Nat) (ms : List S64) (r nx : Int) (w : World) (hD : Kd.C k64 w B m ms) (hm : ms.length = m) (hc : m ≤ d) :
  Calls Try.prog 24 #[.agg #[.slice B m d, .int .i64 r, .int .i64 nx]] w fun e w' => e = .returned (.int .i64 (checkR ms r nx)) ∧ Below w.heap.size w w' := by
 have HD := Aside0.mk hD
 have HM := Lib.hid hm
 have HPL := Aside0.mk (fun (id : Int) (W : World) (hW : Below w.heap.size w W) => place_call B d m ms r nx id W (Kd.C_below hD hW) hm hc)
 have HKI := Aside0.mk (fun (y : S64) (A5 : Option Addr) (e5 n5 : Nat) (A6 : Option Addr) (e6 n6 : Nat) (W : World) (hW : Below w.heap.size w W) (hC6 : Kd.C (Kd.int .i64) W A6 n6 y.f6) (h6 : y.f6.length = n6) (hc6 : n6 ≤ e6) => kidsR_is B d m ms r nx y A5 e5 n5 A6 e6 n6 W (Kd.C_below hD hW) hm hc hC6 h6 hc6)
 have HLO := Aside0.mk (fun (hl : m ≤ 9223372036854775806) (y : S64) (A5 : Option Addr) (e5 n5 : Nat) (A6 : Option Addr) (e6 n6 : Nat) (W : World) (hW : Below w.heap.size w W) (hC5 : Kd.C k68 W A5 n5 y.f5) (h5 : y.f5.length = n5) (hc5 : n5 ≤ e5) (hC6 : Kd.C (Kd.int .i64) W A6 n6 y.f6) (h6 : y.f6.length = n6) (hc6 : n6 ≤ e6) => loops_call B d m ms r nx y A5 e5 n5 A6 e6 n6 W (Kd.C_below hD hW) hm hc hl hC5 h5 hc5 hC6 h6 hc6)
 obtain ⟨R, hR⟩ : ∃ R, checkR ms r nx = R := ⟨_, rfl⟩
 rw [hR]
 unfold checkR at hR
 rw [hm] at hR
 have HR := Lib.hid hR
 obtain ⟨N, hNN⟩ : ∃ N, w.heap.size = N := ⟨_, rfl⟩
 obtain ⟨W1, hW1⟩ : ∃ W, w.alloc (.cells #[.slice B m d, .int .i64 r, .int .i64 nx] 24) = W := ⟨_, rfl⟩
 have hb1 : Below N w W1 := by rw [← hW1, ← hNN]; exact (Below.refl _ _).alloc (Nat.le_refl _) _
 have hx1 : W1.heap[N]? = some (.cells #[.slice B m d, .int .i64 r, .int .i64 nx] 24 (0, 0)) := by rw [← hW1, ← hNN]; exact World.alloc_heap_new w _
 have q0 : W1.cell? ⟨N, 0, none⟩ = some (.slice B m d) := blk_cell hx1 0
 have q1 : W1.cell? ⟨N, 1, none⟩ = some (.int .i64 r) := blk_cell hx1 1
 have q2 : W1.cell? ⟨N, 2, none⟩ = some (.int .i64 nx) := blk_cell hx1 2
 have HX1 := Aside0.mk hx1
 have HB := Aside0.mk hb1
 have HNN := Lib.hid hNN
 clear hD hm hc hR hb1 hx1
 by_cases c1 : nx < 1
 ·
  have d1 : decide (nx < 1) = true := decide_eq_true c1
  have HV : Aside0 (R = 9) := ⟨by rw [← HR.out, if_pos c1]⟩
  clear c1
  go_enter Try.func24, Try.ntmps24
  go_wp2_with fail
  go_ret
  exact ⟨by rw [HV.out]; rfl, by rw [HNN.out]; exact HB.out⟩
 have d1 : decide (nx < 1) = false := decide_eq_false c1
 by_cases c2 : nx > 2147483647
 ·
  have d2 : decide (nx > 2147483647) = true := decide_eq_true c2
  have HV : Aside0 (R = 9) := ⟨by rw [← HR.out, if_neg c1, if_pos c2]⟩
  clear c1 c2
  go_enter Try.func24, Try.ntmps24
  go_wp2_with fail
  go_ret
  exact ⟨by rw [HV.out]; rfl, by rw [HNN.out]; exact HB.out⟩
 have d2 : decide (nx > 2147483647) = false := decide_eq_false c2
 by_cases c3 : 1024 < m
 ·
  have d3 : decide ((m : Int) > 1024) = true := decide_eq_true (by omega)
  have d3n : decide (1024 < m) = true := decide_eq_true c3
  have HV : Aside0 (R = 9) := ⟨by rw [← HR.out, if_neg c1, if_neg c2, if_pos c3]⟩
  clear c1 c2 c3
  go_enter Try.func24, Try.ntmps24
  go_wp2_with fail
  go_ret
  exact ⟨by rw [HV.out]; rfl, by rw [HNN.out]; exact HB.out⟩
 have d3 : decide ((m : Int) > 1024) = false := decide_eq_false (by omega)
 have d3n : decide (1024 < m) = false := decide_eq_false c3
 have hm1 : m ≤ 1024 := by omega
 have HR1 : Aside0 (R = if checkRL ms nx 0 (ms.drop 0) = true then (if rootR ms r = true then 0 else 9) else 9) := ⟨by rw [← HR.out, if_neg c1, if_neg c2, if_neg c3]; rfl⟩
 clear c1 c2 c3 HR
 go_enter Try.func24, Try.ntmps24
 go_wp2_with fail
 clear q0 q1 q2
 go_loopw [3] (fun i wr => ∃ j : Nat, j ≤ m ∧ i = .int .i64 j ∧ Aside0 (R = if checkRL ms nx j (ms.drop j) = true then (if rootR ms r = true then 0 else 9) else 9) ∧ Aside0 (Below N w wr) ∧ Aside0 (wr.heap[N]? = some (.cells #[.slice B m d, .int .i64 r, .int .i64 nx] 24 (0, 0)))) (fun i _ => m - (intOf i).toNat)
 case atStart => exact ⟨0, Nat.zero_le _, rfl, HR1, HB, HX1⟩
 case round =>
  obtain ⟨j, hj, rfl, HZ, HBR, HXR⟩ := hrel
  have q0 : wr.cell? ⟨N, 0, none⟩ = some (.slice B m d) := blk_cell HXR.out 0
  have q1 : wr.cell? ⟨N, 1, none⟩ = some (.int .i64 r) := blk_cell HXR.out 1
  have q2 : wr.cell? ⟨N, 2, none⟩ = some (.int .i64 nx) := blk_cell HXR.out 2
  have HNW : Aside0 (N ≤ wr.heap.size) := ⟨by have := HBR.out.size; have := HNN.out; omega⟩
  by_cases hlt : j < m
  ·
   have hkm : j < ms.length := by have := HM.out; omega
   obtain ⟨bd, B5, g5, B6, g6, rfl, hy0, hy1, hy2, hy3, hy4, hy5, hy6, hm5, hD5, hm6, hD6⟩ := at_T64 (Kd.C_below HD.out (HNN.out ▸ HBR.out)) (j : Int) (by omega) (by omega)
   have ey : rd_T64 ms (j : Int) = ms[j] := rdR_lt hkm
   have hz := HZ.out
   rw [List.drop_eq_getElem_cons hkm, checkRL] at hz
   rw [ey] at hy0 hy1 hy2 hy3 hy4 hy5 hy6 hm5 hD5 hm6 hD6
   obtain ⟨y, hye⟩ : ∃ y, ms[j] = y := ⟨_, rfl⟩
   rw [hye] at hy0 hy1 hy2 hy3 hy4 hy5 hy6 hm5 hD5 hm6 hD6 hz
   rw [Int.toNat_natCast] at hy0 hy1 hy2 hy3 hy4 hy5 hy6
   have HZ2 := Aside0.mk hz
   have HD5 := Aside0.mk hD5
   have HD6 := Aside0.mk hD6
   obtain ⟨k5, e5k⟩ : ∃ m, y.f5.length = m := ⟨_, rfl⟩
   obtain ⟨k6, e6k⟩ : ∃ m, y.f6.length = m := ⟨_, rfl⟩
   rw [e5k] at hy5 hm5 HD5
   rw [e6k] at hy6 hm6 HD6
   have E5 := Lib.hid e5k
   have E6 := Lib.hid e6k
   have d9 : decide ((j : Int) < (m : Int)) = true := decide_eq_true (by omega)
   have hjm : (j : Int) < (m : Int) := by omega
   clear hz HZ ey hye hkm hD5 hD6 e5k e6k
   go_upto_region 6 with (fail)
   go_cut [4] (fun s4 wx => ∃ b4 : Nat, s4 = .pointer (some ⟨b4, 0, none⟩) ∧ Aside0 (Below wr.heap.size wr wx) ∧ Aside0 (RBox wx b4 y B5 g5 k5 B6 g6 k6))
   case first =>
    go_wp2_with fail
    go_meet
    exact ⟨wr.heap.size, rfl, ⟨below_alloc (Below.refl _ _) _⟩, ⟨World.alloc_heap_new wr _⟩⟩
   case rest =>
    obtain ⟨b4, rfl, HBC0, HYC⟩ := hcut
    have HBC : Aside0 (Below N w wc) := ⟨HBR.out.trans (HBC0.out.mono HNW.out)⟩
    have HNC : Aside0 (N ≤ wc.heap.size) := ⟨Nat.le_trans HNW.out HBC0.out.size⟩
    have HXC := Aside0.mk ((HBC0.out.block _ (blk_lt HXR.out)).trans HXR.out)
    have HDR : Aside0 (Below wc.heap.size wc wc.drew) := ⟨below_drew1 (Below.refl _ _)⟩
    have HPB : Aside0 (∀ W, Below wc.heap.size wc W → Calls Try.prog 50 #[.string y.f2, .string y.f3, .string y.f4, .slice B5 k5 g5] W fun e w' => e = .returned (.bool (plainB y.f2 y.f3 y.f4 y.f5)) ∧ Below W.heap.size W w') := ⟨fun W hW => plain_call y.f2 y.f3 y.f4 B5 g5 k5 y.f5 W (Kd.C_below HD5.out (HBC0.out.trans (hW.mono HBC0.out.size))) E5.out hm5⟩
    have HKB : Aside0 (∀ W, Below wc.heap.size wc W → Calls Try.prog 51 #[.agg #[.slice (some bd) m d, .int .i64 r, .int .i64 nx], .agg #[.int .i64 y.f0, .int .i64 y.f1, .string y.f2, .string y.f3, .string y.f4, .slice B5 k5 g5, .slice B6 k6 g6]] W fun e w' => e = .returned (.bool (kidsR ms y)) ∧ Below W.heap.size W w') := ⟨fun W hW => HKI.out y B5 g5 k5 B6 g6 k6 W (HNN.out ▸ HBC.out.trans (hW.mono HNC.out)) (Kd.C_below HD6.out (HBC0.out.trans (hW.mono HBC0.out.size))) E6.out hm6⟩
    have HLB : Aside0 (∀ W, Below wc.heap.size wc W → Calls Try.prog 53 #[.agg #[.slice (some bd) m d, .int .i64 r, .int .i64 nx], .agg #[.int .i64 y.f0, .int .i64 y.f1, .string y.f2, .string y.f3, .string y.f4, .slice B5 k5 g5, .slice B6 k6 g6]] W fun e w' => e = .returned (.bool (loopsR ms y)) ∧ Below W.heap.size W w') := ⟨fun W hW => HLO.out (by omega) y B5 g5 k5 B6 g6 k6 W (HNN.out ▸ HBC.out.trans (hW.mono HNC.out)) (Kd.C_below HD5.out (HBC0.out.trans (hW.mono HBC0.out.size))) E5.out hm5 (Kd.C_below HD6.out (HBC0.out.trans (hW.mono HBC0.out.size))) E6.out hm6⟩
    clear hy0 hy1 hy2 hy3 hy4 hy5 hy6 q0 q1 q2
    have p0 : wc.cell? ⟨N, 0, none⟩ = some (.slice (some bd) m d) := blk_cell HXC.out 0
    have p1 : wc.cell? ⟨N, 1, none⟩ = some (.int .i64 r) := blk_cell HXC.out 1
    have p2 : wc.cell? ⟨N, 2, none⟩ = some (.int .i64 nx) := blk_cell HXC.out 2
    have v0 : wc.cell? ⟨b4, 0, none⟩ = some (.int .i64 y.f0) := blk_cell HYC.out 0
    have v1 : wc.cell? ⟨b4, 1, none⟩ = some (.int .i64 y.f1) := blk_cell HYC.out 1
    have v2 : wc.cell? ⟨b4, 2, none⟩ = some (.string y.f2) := blk_cell HYC.out 2
    have v3 : wc.cell? ⟨b4, 3, none⟩ = some (.string y.f3) := blk_cell HYC.out 3
    have v4 : wc.cell? ⟨b4, 4, none⟩ = some (.string y.f4) := blk_cell HYC.out 4
    have v5 : wc.cell? ⟨b4, 5, none⟩ = some (.slice B5 k5 g5) := blk_cell HYC.out 5
    have v6 : wc.cell? ⟨b4, 6, none⟩ = some (.slice B6 k6 g6) := blk_cell HYC.out 6
    obtain ⟨bq, hbq0⟩ : ∃ b, badR ms nx j y = b := ⟨_, rfl⟩
    rw [hbq0] at HZ2
    have HBQ := Lib.hid hbq0
    clear hbq0
    go_wp2_with fail
    go_cut [76] (fun s76 wx => s76 = .bool bq ∧ Aside0 (Below wc.heap.size wc wx))
    case first =>
     have hbd := HBQ.out
     unfold badR at hbd
     obtain ⟨pq, hpq⟩ : ∃ b, plainB y.f2 y.f3 y.f4 y.f5 = b := ⟨_, rfl⟩
     obtain ⟨kq, hkq⟩ : ∃ b, kidsR ms y = b := ⟨_, rfl⟩
     rw [hpq, hkq] at hbd
     rw [hpq] at HPB
     rw [hkq] at HKB
     clear hpq hkq
     by_cases e1 : y.f0 < 1
     ·
      have hbq : bq = true := by rw [← hbd, if_pos e1]
      have f1 : decide (y.f0 < 1) = true := decide_eq_true e1
      clear e1 hbd
      refine start_ (n := 44) (S := fun w' => w'.cell? ⟨N, 0, none⟩ = some (.slice (some bd) m d) ∧ w'.cell? ⟨N, 1, none⟩ = some (.int .i64 r) ∧ w'.cell? ⟨N, 2, none⟩ = some (.int .i64 nx) ∧ w'.cell? ⟨b4, 0, none⟩ = some (.int .i64 y.f0) ∧ w'.cell? ⟨b4, 1, none⟩ = some (.int .i64 y.f1) ∧ w'.cell? ⟨b4, 2, none⟩ = some (.string y.f2) ∧ w'.cell? ⟨b4, 3, none⟩ = some (.string y.f3) ∧ w'.cell? ⟨b4, 4, none⟩ = some (.string y.f4) ∧ w'.cell? ⟨b4, 5, none⟩ = some (.slice B5 k5 g5) ∧ w'.cell? ⟨b4, 6, none⟩ = some (.slice B6 k6 g6)) (ds := []) (bsR 44 0) (by kernel_rfl) rfl (by kernel_rfl) ⟨p0, p1, p2, v0, v1, v2, v3, v4, v5, v6⟩ (fun hHeld => ?_)
      (refine pure_ (i := 0) (v := ?_) (a' := ?_) (bsR 44 1) rfl rfl (by kernel_rfl) (fun _ _ _ h => h) (Or.inl ⟨by rfl, ?_⟩) ?_ ?_; rotate_left; (intro w'; go_simp; with_reducible rfl); rotate_left; (go_simp; rfl))
      (refine take_ (i := 1) (v := ?_) (a' := ?_) (bsR 44 2) rfl rfl (by kernel_rfl) (fun _ _ _ h => h) (Or.inl ⟨by rfl, ?_⟩) hHeld ?_ ?_; rotate_left; (rintro w' ⟨s0, s1, s2, s3, s4, s5, s6, s7, s8, s9⟩; go_simp; with_reducible rfl); rotate_left; (go_simp; rfl))
      (refine pure_ (i := 2) (v := ?_) (a' := ?_) (bsR 44 3) rfl rfl (by kernel_rfl) (fun _ _ _ h => h) (Or.inl ⟨by rfl, ?_⟩) ?_ ?_; rotate_left; (intro w'; go_simp; with_reducible rfl); rotate_left; (go_simp; rfl))
      (refine pure_ (i := 3) (v := ?_) (a' := ?_) (bsR 44 4) rfl rfl (by kernel_rfl) (fun _ _ _ h => h) (Or.inl ⟨by rfl, ?_⟩) ?_ ?_; rotate_left; (intro w'; go_simp; with_reducible rfl); rotate_left; (go_simp; rfl))
      (refine pure_ (i := 4) (v := undef) (a' := ?_) (bsR 44 5) rfl rfl (by kernel_rfl) (fun _ _ _ h => h) (Or.inr ⟨by rfl, rfl⟩) ?_ ?_; rotate_left; (go_simp; rfl))
      (refine pure_ (i := 5) (v := undef) (a' := ?_) (bsR 44 6) rfl rfl (by kernel_rfl) (fun _ _ _ h => h) (Or.inr ⟨by rfl, rfl⟩) ?_ ?_; rotate_left; (go_simp; rfl))
      (refine pure_ (i := 6) (v := undef) (a' := ?_) (bsR 44 7) rfl rfl (by kernel_rfl) (fun _ _ _ h => h) (Or.inr ⟨by rfl, rfl⟩) ?_ ?_; rotate_left; (go_simp; rfl))
      (refine pure_ (i := 7) (v := undef) (a' := ?_) (bsR 44 8) rfl rfl (by kernel_rfl) (fun _ _ _ h => h) (Or.inr ⟨by rfl, rfl⟩) ?_ ?_; rotate_left; (go_simp; rfl))
      (refine pure_ (i := 8) (v := undef) (a' := ?_) (bsR 44 9) rfl rfl (by kernel_rfl) (fun _ _ _ h => h) (Or.inr ⟨by rfl, rfl⟩) ?_ ?_; rotate_left; (go_simp; rfl))
      (refine pure_ (i := 9) (v := ?_) (a' := ?_) (bsR 44 10) rfl rfl (by kernel_rfl) (fun _ _ _ h => h) (Or.inl ⟨by rfl, ?_⟩) ?_ ?_; rotate_left; (intro w'; go_simp; with_reducible rfl); rotate_left; (go_simp; rfl))
      (refine pure_ (i := 10) (v := ?_) (a' := ?_) (bsR 44 11) rfl rfl (by kernel_rfl) (fun _ _ _ h => h) (Or.inl ⟨by rfl, ?_⟩) ?_ ?_; rotate_left; (intro w'; go_simp; with_reducible rfl); rotate_left; (go_simp; rfl))
      (refine pure_ (i := 11) (v := undef) (a' := ?_) (bsR 44 12) rfl rfl (by kernel_rfl) (fun _ _ _ h => h) (Or.inr ⟨by rfl, rfl⟩) ?_ ?_; rotate_left; (go_simp; rfl))
      (refine pure_ (i := 12) (v := undef) (a' := ?_) (bsR 44 13) rfl rfl (by kernel_rfl) (fun _ _ _ h => h) (Or.inr ⟨by rfl, rfl⟩) ?_ ?_; rotate_left; (go_simp; rfl))
      (refine pure_ (i := 13) (v := undef) (a' := ?_) (bsR 44 14) rfl rfl (by kernel_rfl) (fun _ _ _ h => h) (Or.inr ⟨by rfl, rfl⟩) ?_ ?_; rotate_left; (go_simp; rfl))
      (refine pure_ (i := 14) (v := undef) (a' := ?_) (bsR 44 15) rfl rfl (by kernel_rfl) (fun _ _ _ h => h) (Or.inr ⟨by rfl, rfl⟩) ?_ ?_; rotate_left; (go_simp; rfl))
      (refine pure_ (i := 15) (v := undef) (a' := ?_) (bsR 44 16) rfl rfl (by kernel_rfl) (fun _ _ _ h => h) (Or.inr ⟨by rfl, rfl⟩) ?_ ?_; rotate_left; (go_simp; rfl))
      (refine pure_ (i := 16) (v := undef) (a' := ?_) (bsR 44 17) rfl rfl (by kernel_rfl) (fun _ _ _ h => h) (Or.inr ⟨by rfl, rfl⟩) ?_ ?_; rotate_left; (go_simp; rfl))
      (refine pure_ (i := 17) (v := undef) (a' := ?_) (bsR 44 18) rfl rfl (by kernel_rfl) (fun _ _ _ h => h) (Or.inr ⟨by rfl, rfl⟩) ?_ ?_; rotate_left; (go_simp; rfl))
      (refine pure_ (i := 18) (v := undef) (a' := ?_) (bsR 44 19) rfl rfl (by kernel_rfl) (fun _ _ _ h => h) (Or.inr ⟨by rfl, rfl⟩) ?_ ?_; rotate_left; (go_simp; rfl))
      (refine pure_ (i := 19) (v := undef) (a' := ?_) (bsR 44 20) rfl rfl (by kernel_rfl) (fun _ _ _ h => h) (Or.inr ⟨by rfl, rfl⟩) ?_ ?_; rotate_left; (go_simp; rfl))
      (refine pure_ (i := 20) (v := undef) (a' := ?_) (bsR 44 21) rfl rfl (by kernel_rfl) (fun _ _ _ h => h) (Or.inr ⟨by rfl, rfl⟩) ?_ ?_; rotate_left; (go_simp; rfl))
      (refine pure_ (i := 21) (v := undef) (a' := ?_) (bsR 44 22) rfl rfl (by kernel_rfl) (fun _ _ _ h => h) (Or.inr ⟨by rfl, rfl⟩) ?_ ?_; rotate_left; (go_simp; rfl))
      (refine pure_ (i := 22) (v := undef) (a' := ?_) (bsR 44 23) rfl rfl (by kernel_rfl) (fun _ _ _ h => h) (Or.inr ⟨by rfl, rfl⟩) ?_ ?_; rotate_left; (go_simp; rfl))
      (refine pure_ (i := 23) (v := undef) (a' := ?_) (bsR 44 24) rfl rfl (by kernel_rfl) (fun _ _ _ h => h) (Or.inr ⟨by rfl, rfl⟩) ?_ ?_; rotate_left; (go_simp; rfl))
      (refine pure_ (i := 24) (v := undef) (a' := ?_) (bsR 44 25) rfl rfl (by kernel_rfl) (fun _ _ _ h => h) (Or.inr ⟨by rfl, rfl⟩) ?_ ?_; rotate_left; (go_simp; rfl))
      (refine pure_ (i := 25) (v := ?_) (a' := ?_) (bsR 44 26) rfl rfl (by kernel_rfl) (fun _ _ _ h => h) (Or.inl ⟨by rfl, ?_⟩) ?_ ?_; rotate_left; (intro w'; go_simp; with_reducible rfl); rotate_left; (go_simp; rfl))
      (refine pure_ (i := 26) (v := ?_) (a' := ?_) (bsR 44 27) rfl rfl (by kernel_rfl) (fun _ _ _ h => h) (Or.inl ⟨by rfl, ?_⟩) ?_ ?_; rotate_left; (intro w'; go_simp; with_reducible rfl); rotate_left; (go_simp; rfl))
      (refine pure_ (i := 27) (v := undef) (a' := ?_) (bsR 44 28) rfl rfl (by kernel_rfl) (fun _ _ _ h => h) (Or.inr ⟨by rfl, rfl⟩) ?_ ?_; rotate_left; (go_simp; rfl))
      (refine pure_ (i := 28) (v := undef) (a' := ?_) (bsR 44 29) rfl rfl (by kernel_rfl) (fun _ _ _ h => h) (Or.inr ⟨by rfl, rfl⟩) ?_ ?_; rotate_left; (go_simp; rfl))
      (refine pure_ (i := 29) (v := undef) (a' := ?_) (bsR 44 30) rfl rfl (by kernel_rfl) (fun _ _ _ h => h) (Or.inr ⟨by rfl, rfl⟩) ?_ ?_; rotate_left; (go_simp; rfl))
      (refine pure_ (i := 30) (v := undef) (a' := ?_) (bsR 44 31) rfl rfl (by kernel_rfl) (fun _ _ _ h => h) (Or.inr ⟨by rfl, rfl⟩) ?_ ?_; rotate_left; (go_simp; rfl))
      (refine pure_ (i := 31) (v := undef) (a' := ?_) (bsR 44 32) rfl rfl (by kernel_rfl) (fun _ _ _ h => h) (Or.inr ⟨by rfl, rfl⟩) ?_ ?_; rotate_left; (go_simp; rfl))
      (refine pure_ (i := 32) (v := undef) (a' := ?_) (bsR 44 33) rfl rfl (by kernel_rfl) (fun _ _ _ h => h) (Or.inr ⟨by rfl, rfl⟩) ?_ ?_; rotate_left; (go_simp; rfl))
      (refine pure_ (i := 33) (v := undef) (a' := ?_) (bsR 44 34) rfl rfl (by kernel_rfl) (fun _ _ _ h => h) (Or.inr ⟨by rfl, rfl⟩) ?_ ?_; rotate_left; (go_simp; rfl))
      (refine pure_ (i := 34) (v := undef) (a' := ?_) (bsR 44 35) rfl rfl (by kernel_rfl) (fun _ _ _ h => h) (Or.inr ⟨by rfl, rfl⟩) ?_ ?_; rotate_left; (go_simp; rfl))
      (refine pure_ (i := 35) (v := undef) (a' := ?_) (bsR 44 36) rfl rfl (by kernel_rfl) (fun _ _ _ h => h) (Or.inr ⟨by rfl, rfl⟩) ?_ ?_; rotate_left; (go_simp; rfl))
      (refine pure_ (i := 36) (v := undef) (a' := ?_) (bsR 44 37) rfl rfl (by kernel_rfl) (fun _ _ _ h => h) (Or.inr ⟨by rfl, rfl⟩) ?_ ?_; rotate_left; (go_simp; rfl))
      (refine pure_ (i := 37) (v := ?_) (a' := ?_) (bsR 44 38) rfl rfl (by kernel_rfl) (fun _ _ _ h => h) (Or.inl ⟨by rfl, ?_⟩) ?_ ?_; rotate_left; (intro w'; go_simp; with_reducible rfl); rotate_left; (go_simp; rfl))
      (refine pure_ (i := 38) (v := ?_) (a' := ?_) (bsR 44 39) rfl rfl (by kernel_rfl) (fun _ _ _ h => h) (Or.inl ⟨by rfl, ?_⟩) ?_ ?_; rotate_left; (intro w'; go_simp; with_reducible rfl); rotate_left; (go_simp; rfl))
      (refine pure_ (i := 39) (v := undef) (a' := ?_) (bsR 44 40) rfl rfl (by kernel_rfl) (fun _ _ _ h => h) (Or.inr ⟨by rfl, rfl⟩) ?_ ?_; rotate_left; (go_simp; rfl))
      (refine pure_ (i := 40) (v := undef) (a' := ?_) (bsR 44 41) rfl rfl (by kernel_rfl) (fun _ _ _ h => h) (Or.inr ⟨by rfl, rfl⟩) ?_ ?_; rotate_left; (go_simp; rfl))
      (refine pure_ (i := 41) (v := undef) (a' := ?_) (bsR 44 42) rfl rfl (by kernel_rfl) (fun _ _ _ h => h) (Or.inr ⟨by rfl, rfl⟩) ?_ ?_; rotate_left; (go_simp; rfl))
      (refine pure_ (i := 42) (v := undef) (a' := ?_) (bsR 44 43) rfl rfl (by kernel_rfl) (fun _ _ _ h => h) (Or.inr ⟨by rfl, rfl⟩) ?_ ?_; rotate_left; (go_simp; rfl))
      (refine pure_ (i := 43) (v := ?_) (a' := ?_) (bsR 44 44) rfl rfl (by kernel_rfl) (fun _ _ _ h => h) (Or.inl ⟨by rfl, ?_⟩) ?_ ?_; rotate_left; (intro w'; go_simp; with_reducible rfl); rotate_left; (go_simp; rfl))
      refine done_ (by kernel_rfl) ?_
      go_wp2_with fail
      go_meet
      exact ⟨by rw [hbq], HDR⟩
     rw [if_neg e1] at hbd
     have f1 : decide (y.f0 < 1) = false := decide_eq_false e1
     clear e1
     by_cases e2 : y.f0 ≥ nx
     ·
      have hbq : bq = true := by rw [← hbd, if_pos e2]
      have f2 : decide (y.f0 ≥ nx) = true := decide_eq_true e2
      clear e2 hbd
      refine start_ (n := 44) (S := fun w' => w'.cell? ⟨N, 0, none⟩ = some (.slice (some bd) m d) ∧ w'.cell? ⟨N, 1, none⟩ = some (.int .i64 r) ∧ w'.cell? ⟨N, 2, none⟩ = some (.int .i64 nx) ∧ w'.cell? ⟨b4, 0, none⟩ = some (.int .i64 y.f0) ∧ w'.cell? ⟨b4, 1, none⟩ = some (.int .i64 y.f1) ∧ w'.cell? ⟨b4, 2, none⟩ = some (.string y.f2) ∧ w'.cell? ⟨b4, 3, none⟩ = some (.string y.f3) ∧ w'.cell? ⟨b4, 4, none⟩ = some (.string y.f4) ∧ w'.cell? ⟨b4, 5, none⟩ = some (.slice B5 k5 g5) ∧ w'.cell? ⟨b4, 6, none⟩ = some (.slice B6 k6 g6)) (ds := []) (bsR 44 0) (by kernel_rfl) rfl (by kernel_rfl) ⟨p0, p1, p2, v0, v1, v2, v3, v4, v5, v6⟩ (fun hHeld => ?_)
      (refine pure_ (i := 0) (v := ?_) (a' := ?_) (bsR 44 1) rfl rfl (by kernel_rfl) (fun _ _ _ h => h) (Or.inl ⟨by rfl, ?_⟩) ?_ ?_; rotate_left; (intro w'; go_simp; with_reducible rfl); rotate_left; (go_simp; rfl))
      (refine take_ (i := 1) (v := ?_) (a' := ?_) (bsR 44 2) rfl rfl (by kernel_rfl) (fun _ _ _ h => h) (Or.inl ⟨by rfl, ?_⟩) hHeld ?_ ?_; rotate_left; (rintro w' ⟨s0, s1, s2, s3, s4, s5, s6, s7, s8, s9⟩; go_simp; with_reducible rfl); rotate_left; (go_simp; rfl))
      (refine pure_ (i := 2) (v := ?_) (a' := ?_) (bsR 44 3) rfl rfl (by kernel_rfl) (fun _ _ _ h => h) (Or.inl ⟨by rfl, ?_⟩) ?_ ?_; rotate_left; (intro w'; go_simp; with_reducible rfl); rotate_left; (go_simp; rfl))
      (refine pure_ (i := 3) (v := ?_) (a' := ?_) (bsR 44 4) rfl rfl (by kernel_rfl) (fun _ _ _ h => h) (Or.inl ⟨by rfl, ?_⟩) ?_ ?_; rotate_left; (intro w'; go_simp; with_reducible rfl); rotate_left; (go_simp; rfl))
      (refine pure_ (i := 4) (v := ?_) (a' := ?_) (bsR 44 5) rfl rfl (by kernel_rfl) (fun _ _ _ h => h) (Or.inl ⟨by rfl, ?_⟩) ?_ ?_; rotate_left; (intro w'; go_simp; with_reducible rfl); rotate_left; (go_simp; rfl))
      (refine take_ (i := 5) (v := ?_) (a' := ?_) (bsR 44 6) rfl rfl (by kernel_rfl) (fun _ _ _ h => h) (Or.inl ⟨by rfl, ?_⟩) hHeld ?_ ?_; rotate_left; (rintro w' ⟨s0, s1, s2, s3, s4, s5, s6, s7, s8, s9⟩; go_simp; with_reducible rfl); rotate_left; (go_simp; rfl))
      (refine pure_ (i := 6) (v := ?_) (a' := ?_) (bsR 44 7) rfl rfl (by kernel_rfl) (fun _ _ _ h => h) (Or.inl ⟨by rfl, ?_⟩) ?_ ?_; rotate_left; (intro w'; go_simp; with_reducible rfl); rotate_left; (go_simp; rfl))
      (refine take_ (i := 7) (v := ?_) (a' := ?_) (bsR 44 8) rfl rfl (by kernel_rfl) (fun _ _ _ h => h) (Or.inl ⟨by rfl, ?_⟩) hHeld ?_ ?_; rotate_left; (rintro w' ⟨s0, s1, s2, s3, s4, s5, s6, s7, s8, s9⟩; go_simp; with_reducible rfl); rotate_left; (go_simp; rfl))
      (refine pure_ (i := 8) (v := ?_) (a' := ?_) (bsR 44 9) rfl rfl (by kernel_rfl) (fun _ _ _ h => h) (Or.inl ⟨by rfl, ?_⟩) ?_ ?_; rotate_left; (intro w'; go_simp; with_reducible rfl); rotate_left; (go_simp; rfl))
      (refine pure_ (i := 9) (v := ?_) (a' := ?_) (bsR 44 10) rfl rfl (by kernel_rfl) (fun _ _ _ h => h) (Or.inl ⟨by rfl, ?_⟩) ?_ ?_; rotate_left; (intro w'; go_simp; with_reducible rfl); rotate_left; (go_simp; rfl))
      (refine pure_ (i := 10) (v := ?_) (a' := ?_) (bsR 44 11) rfl rfl (by kernel_rfl) (fun _ _ _ h => h) (Or.inl ⟨by rfl, ?_⟩) ?_ ?_; rotate_left; (intro w'; go_simp; with_reducible rfl); rotate_left; (go_simp; rfl))
      (refine pure_ (i := 11) (v := undef) (a' := ?_) (bsR 44 12) rfl rfl (by kernel_rfl) (fun _ _ _ h => h) (Or.inr ⟨by rfl, rfl⟩) ?_ ?_; rotate_left; (go_simp; rfl))
      (refine pure_ (i := 12) (v := undef) (a' := ?_) (bsR 44 13) rfl rfl (by kernel_rfl) (fun _ _ _ h => h) (Or.inr ⟨by rfl, rfl⟩) ?_ ?_; rotate_left; (go_simp; rfl))
      (refine pure_ (i := 13) (v := undef) (a' := ?_) (bsR 44 14) rfl rfl (by kernel_rfl) (fun _ _ _ h => h) (Or.inr ⟨by rfl, rfl⟩) ?_ ?_; rotate_left; (go_simp; rfl))
      (refine pure_ (i := 14) (v := undef) (a' := ?_) (bsR 44 15) rfl rfl (by kernel_rfl) (fun _ _ _ h => h) (Or.inr ⟨by rfl, rfl⟩) ?_ ?_; rotate_left; (go_simp; rfl))
      (refine pure_ (i := 15) (v := undef) (a' := ?_) (bsR 44 16) rfl rfl (by kernel_rfl) (fun _ _ _ h => h) (Or.inr ⟨by rfl, rfl⟩) ?_ ?_; rotate_left; (go_simp; rfl))
      (refine pure_ (i := 16) (v := undef) (a' := ?_) (bsR 44 17) rfl rfl (by kernel_rfl) (fun _ _ _ h => h) (Or.inr ⟨by rfl, rfl⟩) ?_ ?_; rotate_left; (go_simp; rfl))
      (refine pure_ (i := 17) (v := undef) (a' := ?_) (bsR 44 18) rfl rfl (by kernel_rfl) (fun _ _ _ h => h) (Or.inr ⟨by rfl, rfl⟩) ?_ ?_; rotate_left; (go_simp; rfl))
      (refine pure_ (i := 18) (v := undef) (a' := ?_) (bsR 44 19) rfl rfl (by kernel_rfl) (fun _ _ _ h => h) (Or.inr ⟨by rfl, rfl⟩) ?_ ?_; rotate_left; (go_simp; rfl))
      (refine pure_ (i := 19) (v := undef) (a' := ?_) (bsR 44 20) rfl rfl (by kernel_rfl) (fun _ _ _ h => h) (Or.inr ⟨by rfl, rfl⟩) ?_ ?_; rotate_left; (go_simp; rfl))
      (refine pure_ (i := 20) (v := undef) (a' := ?_) (bsR 44 21) rfl rfl (by kernel_rfl) (fun _ _ _ h => h) (Or.inr ⟨by rfl, rfl⟩) ?_ ?_; rotate_left; (go_simp; rfl))
      (refine pure_ (i := 21) (v := undef) (a' := ?_) (bsR 44 22) rfl rfl (by kernel_rfl) (fun _ _ _ h => h) (Or.inr ⟨by rfl, rfl⟩) ?_ ?_; rotate_left; (go_simp; rfl))
      (refine pure_ (i := 22) (v := undef) (a' := ?_) (bsR 44 23) rfl rfl (by kernel_rfl) (fun _ _ _ h => h) (Or.inr ⟨by rfl, rfl⟩) ?_ ?_; rotate_left; (go_simp; rfl))
      (refine pure_ (i := 23) (v := undef) (a' := ?_) (bsR 44 24) rfl rfl (by kernel_rfl) (fun _ _ _ h => h) (Or.inr ⟨by rfl, rfl⟩) ?_ ?_; rotate_left; (go_simp; rfl))
      (refine pure_ (i := 24) (v := undef) (a' := ?_) (bsR 44 25) rfl rfl (by kernel_rfl) (fun _ _ _ h => h) (Or.inr ⟨by rfl, rfl⟩) ?_ ?_; rotate_left; (go_simp; rfl))
      (refine pure_ (i := 25) (v := ?_) (a' := ?_) (bsR 44 26) rfl rfl (by kernel_rfl) (fun _ _ _ h => h) (Or.inl ⟨by rfl, ?_⟩) ?_ ?_; rotate_left; (intro w'; go_simp; with_reducible rfl); rotate_left; (go_simp; rfl))
      (refine pure_ (i := 26) (v := ?_) (a' := ?_) (bsR 44 27) rfl rfl (by kernel_rfl) (fun _ _ _ h => h) (Or.inl ⟨by rfl, ?_⟩) ?_ ?_; rotate_left; (intro w'; go_simp; with_reducible rfl); rotate_left; (go_simp; rfl))
      (refine pure_ (i := 27) (v := undef) (a' := ?_) (bsR 44 28) rfl rfl (by kernel_rfl) (fun _ _ _ h => h) (Or.inr ⟨by rfl, rfl⟩) ?_ ?_; rotate_left; (go_simp; rfl))
      (refine pure_ (i := 28) (v := undef) (a' := ?_) (bsR 44 29) rfl rfl (by kernel_rfl) (fun _ _ _ h => h) (Or.inr ⟨by rfl, rfl⟩) ?_ ?_; rotate_left; (go_simp; rfl))
      (refine pure_ (i := 29) (v := undef) (a' := ?_) (bsR 44 30) rfl rfl (by kernel_rfl) (fun _ _ _ h => h) (Or.inr ⟨by rfl, rfl⟩) ?_ ?_; rotate_left; (go_simp; rfl))
      (refine pure_ (i := 30) (v := undef) (a' := ?_) (bsR 44 31) rfl rfl (by kernel_rfl) (fun _ _ _ h => h) (Or.inr ⟨by rfl, rfl⟩) ?_ ?_; rotate_left; (go_simp; rfl))
      (refine pure_ (i := 31) (v := undef) (a' := ?_) (bsR 44 32) rfl rfl (by kernel_rfl) (fun _ _ _ h => h) (Or.inr ⟨by rfl, rfl⟩) ?_ ?_; rotate_left; (go_simp; rfl))
      (refine pure_ (i := 32) (v := undef) (a' := ?_) (bsR 44 33) rfl rfl (by kernel_rfl) (fun _ _ _ h => h) (Or.inr ⟨by rfl, rfl⟩) ?_ ?_; rotate_left; (go_simp; rfl))
      (refine pure_ (i := 33) (v := undef) (a' := ?_) (bsR 44 34) rfl rfl (by kernel_rfl) (fun _ _ _ h => h) (Or.inr ⟨by rfl, rfl⟩) ?_ ?_; rotate_left; (go_simp; rfl))
      (refine pure_ (i := 34) (v := undef) (a' := ?_) (bsR 44 35) rfl rfl (by kernel_rfl) (fun _ _ _ h => h) (Or.inr ⟨by rfl, rfl⟩) ?_ ?_; rotate_left; (go_simp; rfl))
      (refine pure_ (i := 35) (v := undef) (a' := ?_) (bsR 44 36) rfl rfl (by kernel_rfl) (fun _ _ _ h => h) (Or.inr ⟨by rfl, rfl⟩) ?_ ?_; rotate_left; (go_simp; rfl))
      (refine pure_ (i := 36) (v := undef) (a' := ?_) (bsR 44 37) rfl rfl (by kernel_rfl) (fun _ _ _ h => h) (Or.inr ⟨by rfl, rfl⟩) ?_ ?_; rotate_left; (go_simp; rfl))
      (refine pure_ (i := 37) (v := ?_) (a' := ?_) (bsR 44 38) rfl rfl (by kernel_rfl) (fun _ _ _ h => h) (Or.inl ⟨by rfl, ?_⟩) ?_ ?_; rotate_left; (intro w'; go_simp; with_reducible rfl); rotate_left; (go_simp; rfl))
      (refine pure_ (i := 38) (v := ?_) (a' := ?_) (bsR 44 39) rfl rfl (by kernel_rfl) (fun _ _ _ h => h) (Or.inl ⟨by rfl, ?_⟩) ?_ ?_; rotate_left; (intro w'; go_simp; with_reducible rfl); rotate_left; (go_simp; rfl))
      (refine pure_ (i := 39) (v := undef) (a' := ?_) (bsR 44 40) rfl rfl (by kernel_rfl) (fun _ _ _ h => h) (Or.inr ⟨by rfl, rfl⟩) ?_ ?_; rotate_left; (go_simp; rfl))
      (refine pure_ (i := 40) (v := undef) (a' := ?_) (bsR 44 41) rfl rfl (by kernel_rfl) (fun _ _ _ h => h) (Or.inr ⟨by rfl, rfl⟩) ?_ ?_; rotate_left; (go_simp; rfl))
      (refine pure_ (i := 41) (v := undef) (a' := ?_) (bsR 44 42) rfl rfl (by kernel_rfl) (fun _ _ _ h => h) (Or.inr ⟨by rfl, rfl⟩) ?_ ?_; rotate_left; (go_simp; rfl))
      (refine pure_ (i := 42) (v := undef) (a' := ?_) (bsR 44 43) rfl rfl (by kernel_rfl) (fun _ _ _ h => h) (Or.inr ⟨by rfl, rfl⟩) ?_ ?_; rotate_left; (go_simp; rfl))
      (refine pure_ (i := 43) (v := ?_) (a' := ?_) (bsR 44 44) rfl rfl (by kernel_rfl) (fun _ _ _ h => h) (Or.inl ⟨by rfl, ?_⟩) ?_ ?_; rotate_left; (intro w'; go_simp; with_reducible rfl); rotate_left; (go_simp; rfl))
      refine done_ (by kernel_rfl) ?_
      go_wp2_with fail
      go_meet
      exact ⟨by rw [hbq], HDR⟩
     rw [if_neg e2] at hbd
     have f2 : decide (y.f0 ≥ nx) = false := decide_eq_false e2
     clear e2
     by_cases e0 : 0 < j
     ·
      have f0 : decide ((j : Int) > 0) = true := decide_eq_true (by omega)
      have f0n : decide (0 < j) = true := decide_eq_true e0
      obtain ⟨ji, hji⟩ : ∃ ji : Int, (j : Int) - 1 = ji := ⟨_, rfl⟩
      have hjw : IntKind.i64.wrap ((j : Int) - 1) = ji := by rw [IntKind.wrap_i64]; omega
      have g1 : 0 ≤ ji := by omega
      have g2 : ji < (m : Int) := by omega
      obtain ⟨bd2, B5', g5', B6', g6', ebd, pc, -, -, -, -, -, -, -, -, -, -⟩ := at_T64 (Kd.C_below HD.out (HNN.out ▸ HBC.out)) ji g1 g2
      obtain rfl : bd = bd2 := Option.some.inj ebd
      rw [hji] at hbd
      obtain ⟨pf, hpf⟩ : ∃ z, (rd_T64 ms ji).f0 = z := ⟨_, rfl⟩
      rw [hpf] at pc hbd
      clear ebd hji hpf
      replace g1 := eq_true g1
      replace g2 := eq_true g2
      by_cases e3 : y.f0 ≤ pf
      ·
       have hbq : bq = true := by rw [← hbd, if_pos ⟨e0, e3⟩]
       have f3 : decide (y.f0 ≤ pf) = true := decide_eq_true e3
       clear e3 hbd e0
       refine start_ (n := 44) (S := fun w' => w'.cell? ⟨N, 0, none⟩ = some (.slice (some bd) m d) ∧ w'.cell? ⟨N, 1, none⟩ = some (.int .i64 r) ∧ w'.cell? ⟨N, 2, none⟩ = some (.int .i64 nx) ∧ w'.cell? ⟨b4, 0, none⟩ = some (.int .i64 y.f0) ∧ w'.cell? ⟨b4, 1, none⟩ = some (.int .i64 y.f1) ∧ w'.cell? ⟨b4, 2, none⟩ = some (.string y.f2) ∧ w'.cell? ⟨b4, 3, none⟩ = some (.string y.f3) ∧ w'.cell? ⟨b4, 4, none⟩ = some (.string y.f4) ∧ w'.cell? ⟨b4, 5, none⟩ = some (.slice B5 k5 g5) ∧ w'.cell? ⟨b4, 6, none⟩ = some (.slice B6 k6 g6) ∧ w'.cell? (bd.add (ji.toNat * 7)) = some (.int .i64 pf)) (ds := []) (bsR 44 0) (by kernel_rfl) rfl (by kernel_rfl) ⟨p0, p1, p2, v0, v1, v2, v3, v4, v5, v6, pc⟩ (fun hHeld => ?_)
       (refine pure_ (i := 0) (v := ?_) (a' := ?_) (bsR 44 1) rfl rfl (by kernel_rfl) (fun _ _ _ h => h) (Or.inl ⟨by rfl, ?_⟩) ?_ ?_; rotate_left; (intro w'; go_simp; with_reducible rfl); rotate_left; (go_simp; rfl))
       (refine take_ (i := 1) (v := ?_) (a' := ?_) (bsR 44 2) rfl rfl (by kernel_rfl) (fun _ _ _ h => h) (Or.inl ⟨by rfl, ?_⟩) hHeld ?_ ?_; rotate_left; (rintro w' ⟨s0, s1, s2, s3, s4, s5, s6, s7, s8, s9, s10⟩; go_simp; with_reducible rfl); rotate_left; (go_simp; rfl))
       (refine pure_ (i := 2) (v := ?_) (a' := ?_) (bsR 44 3) rfl rfl (by kernel_rfl) (fun _ _ _ h => h) (Or.inl ⟨by rfl, ?_⟩) ?_ ?_; rotate_left; (intro w'; go_simp; with_reducible rfl); rotate_left; (go_simp; rfl))
       (refine pure_ (i := 3) (v := ?_) (a' := ?_) (bsR 44 4) rfl rfl (by kernel_rfl) (fun _ _ _ h => h) (Or.inl ⟨by rfl, ?_⟩) ?_ ?_; rotate_left; (intro w'; go_simp; with_reducible rfl); rotate_left; (go_simp; rfl))
       (refine pure_ (i := 4) (v := ?_) (a' := ?_) (bsR 44 5) rfl rfl (by kernel_rfl) (fun _ _ _ h => h) (Or.inl ⟨by rfl, ?_⟩) ?_ ?_; rotate_left; (intro w'; go_simp; with_reducible rfl); rotate_left; (go_simp; rfl))
       (refine take_ (i := 5) (v := ?_) (a' := ?_) (bsR 44 6) rfl rfl (by kernel_rfl) (fun _ _ _ h => h) (Or.inl ⟨by rfl, ?_⟩) hHeld ?_ ?_; rotate_left; (rintro w' ⟨s0, s1, s2, s3, s4, s5, s6, s7, s8, s9, s10⟩; go_simp; with_reducible rfl); rotate_left; (go_simp; rfl))
       (refine pure_ (i := 6) (v := ?_) (a' := ?_) (bsR 44 7) rfl rfl (by kernel_rfl) (fun _ _ _ h => h) (Or.inl ⟨by rfl, ?_⟩) ?_ ?_; rotate_left; (intro w'; go_simp; with_reducible rfl); rotate_left; (go_simp; rfl))
       (refine take_ (i := 7) (v := ?_) (a' := ?_) (bsR 44 8) rfl rfl (by kernel_rfl) (fun _ _ _ h => h) (Or.inl ⟨by rfl, ?_⟩) hHeld ?_ ?_; rotate_left; (rintro w' ⟨s0, s1, s2, s3, s4, s5, s6, s7, s8, s9, s10⟩; go_simp; with_reducible rfl); rotate_left; (go_simp; rfl))
       (refine pure_ (i := 8) (v := ?_) (a' := ?_) (bsR 44 9) rfl rfl (by kernel_rfl) (fun _ _ _ h => h) (Or.inl ⟨by rfl, ?_⟩) ?_ ?_; rotate_left; (intro w'; go_simp; with_reducible rfl); rotate_left; (go_simp; rfl))
       (refine pure_ (i := 9) (v := ?_) (a' := ?_) (bsR 44 10) rfl rfl (by kernel_rfl) (fun _ _ _ h => h) (Or.inl ⟨by rfl, ?_⟩) ?_ ?_; rotate_left; (intro w'; go_simp; with_reducible rfl); rotate_left; (go_simp; rfl))
       (refine pure_ (i := 10) (v := ?_) (a' := ?_) (bsR 44 11) rfl rfl (by kernel_rfl) (fun _ _ _ h => h) (Or.inl ⟨by rfl, ?_⟩) ?_ ?_; rotate_left; (intro w'; go_simp; with_reducible rfl); rotate_left; (go_simp; rfl))
       (refine pure_ (i := 11) (v := ?_) (a' := ?_) (bsR 44 12) rfl rfl (by kernel_rfl) (fun _ _ _ h => h) (Or.inl ⟨by rfl, ?_⟩) ?_ ?_; rotate_left; (intro w'; go_simp; with_reducible rfl); rotate_left; (go_simp; rfl))
       (refine pure_ (i := 12) (v := ?_) (a' := ?_) (bsR 44 13) rfl rfl (by kernel_rfl) (fun _ _ _ h => h) (Or.inl ⟨by rfl, ?_⟩) ?_ ?_; rotate_left; (intro w'; go_simp; with_reducible rfl); rotate_left; (go_simp; rfl))
       (refine pure_ (i := 13) (v := ?_) (a' := ?_) (bsR 44 14) rfl rfl (by kernel_rfl) (fun _ _ _ h => h) (Or.inl ⟨by rfl, ?_⟩) ?_ ?_; rotate_left; (intro w'; go_simp; with_reducible rfl); rotate_left; (go_simp; rfl))
       (refine pure_ (i := 14) (v := ?_) (a' := ?_) (bsR 44 15) rfl rfl (by kernel_rfl) (fun _ _ _ h => h) (Or.inl ⟨by rfl, ?_⟩) ?_ ?_; rotate_left; (intro w'; go_simp; with_reducible rfl); rotate_left; (go_simp; rfl))
       (refine take_ (i := 15) (v := ?_) (a' := ?_) (bsR 44 16) rfl rfl (by kernel_rfl) (fun _ _ _ h => h) (Or.inl ⟨by rfl, ?_⟩) hHeld ?_ ?_; rotate_left; (rintro w' ⟨s0, s1, s2, s3, s4, s5, s6, s7, s8, s9, s10⟩; go_simp; with_reducible rfl); rotate_left; (go_simp; rfl))
       (refine pure_ (i := 16) (v := ?_) (a' := ?_) (bsR 44 17) rfl rfl (by kernel_rfl) (fun _ _ _ h => h) (Or.inl ⟨by rfl, ?_⟩) ?_ ?_; rotate_left; (intro w'; go_simp; with_reducible rfl); rotate_left; (go_simp; rfl))
       (refine take_ (i := 17) (v := ?_) (a' := ?_) (bsR 44 18) rfl rfl (by kernel_rfl) (fun _ _ _ h => h) (Or.inl ⟨by rfl, ?_⟩) hHeld ?_ ?_; rotate_left; (rintro w' ⟨s0, s1, s2, s3, s4, s5, s6, s7, s8, s9, s10⟩; go_simp; with_reducible rfl); rotate_left; (go_simp; rfl))
       (refine pure_ (i := 18) (v := ?_) (a' := ?_) (bsR 44 19) rfl rfl (by kernel_rfl) (fun _ _ _ h => h) (Or.inl ⟨by rfl, ?_⟩) ?_ ?_; rotate_left; (intro w'; go_simp; with_reducible rfl); rotate_left; (go_simp; rfl))
       (refine pure_ (i := 19) (v := ?_) (a' := ?_) (bsR 44 20) rfl rfl (by kernel_rfl) (fun _ _ _ h => h) (Or.inl ⟨by rfl, ?_⟩) ?_ ?_; rotate_left; (intro w'; go_simp; with_reducible rfl); rotate_left; (go_simp; rfl))
       (refine pure_ (i := 20) (v := ?_) (a' := ?_) (bsR 44 21) rfl rfl (by kernel_rfl) (fun _ _ _ h => h) (Or.inl ⟨by rfl, ?_⟩) ?_ ?_; rotate_left; (intro w'; go_simp; with_reducible rfl); rotate_left; (go_simp; rfl))
       (refine pure_ (i := 21) (v := ?_) (a' := ?_) (bsR 44 22) rfl rfl (by kernel_rfl) (fun _ _ _ h => h) (Or.inl ⟨by rfl, ?_⟩) ?_ ?_; rotate_left; (intro w'; go_simp; with_reducible rfl); rotate_left; (go_simp; rfl))
       (refine take_ (i := 22) (v := ?_) (a' := ?_) (bsR 44 23) rfl rfl (by kernel_rfl) (fun _ _ _ h => h) (Or.inl ⟨by rfl, ?_⟩) hHeld ?_ ?_; rotate_left; (rintro w' ⟨s0, s1, s2, s3, s4, s5, s6, s7, s8, s9, s10⟩; go_simp; with_reducible rfl); rotate_left; (go_simp; rfl))
       (refine pure_ (i := 23) (v := ?_) (a' := ?_) (bsR 44 24) rfl rfl (by kernel_rfl) (fun _ _ _ h => h) (Or.inl ⟨by rfl, ?_⟩) ?_ ?_; rotate_left; (intro w'; go_simp; with_reducible rfl); rotate_left; (go_simp; rfl))
       (refine pure_ (i := 24) (v := ?_) (a' := ?_) (bsR 44 25) rfl rfl (by kernel_rfl) (fun _ _ _ h => h) (Or.inl ⟨by rfl, ?_⟩) ?_ ?_; rotate_left; (intro w'; go_simp; with_reducible rfl); rotate_left; (go_simp; rfl))
       (refine pure_ (i := 25) (v := ?_) (a' := ?_) (bsR 44 26) rfl rfl (by kernel_rfl) (fun _ _ _ h => h) (Or.inl ⟨by rfl, ?_⟩) ?_ ?_; rotate_left; (intro w'; go_simp; with_reducible rfl); rotate_left; (go_simp; rfl))
       (refine pure_ (i := 26) (v := ?_) (a' := ?_) (bsR 44 27) rfl rfl (by kernel_rfl) (fun _ _ _ h => h) (Or.inl ⟨by rfl, ?_⟩) ?_ ?_; rotate_left; (intro w'; go_simp; with_reducible rfl); rotate_left; (go_simp; rfl))
       (refine pure_ (i := 27) (v := undef) (a' := ?_) (bsR 44 28) rfl rfl (by kernel_rfl) (fun _ _ _ h => h) (Or.inr ⟨by rfl, rfl⟩) ?_ ?_; rotate_left; (go_simp; rfl))
       (refine pure_ (i := 28) (v := undef) (a' := ?_) (bsR 44 29) rfl rfl (by kernel_rfl) (fun _ _ _ h => h) (Or.inr ⟨by rfl, rfl⟩) ?_ ?_; rotate_left; (go_simp; rfl))
       (refine pure_ (i := 29) (v := undef) (a' := ?_) (bsR 44 30) rfl rfl (by kernel_rfl) (fun _ _ _ h => h) (Or.inr ⟨by rfl, rfl⟩) ?_ ?_; rotate_left; (go_simp; rfl))
       (refine pure_ (i := 30) (v := undef) (a' := ?_) (bsR 44 31) rfl rfl (by kernel_rfl) (fun _ _ _ h => h) (Or.inr ⟨by rfl, rfl⟩) ?_ ?_; rotate_left; (go_simp; rfl))
       (refine pure_ (i := 31) (v := undef) (a' := ?_) (bsR 44 32) rfl rfl (by kernel_rfl) (fun _ _ _ h => h) (Or.inr ⟨by rfl, rfl⟩) ?_ ?_; rotate_left; (go_simp; rfl))
       (refine pure_ (i := 32) (v := undef) (a' := ?_) (bsR 44 33) rfl rfl (by kernel_rfl) (fun _ _ _ h => h) (Or.inr ⟨by rfl, rfl⟩) ?_ ?_; rotate_left; (go_simp; rfl))
       (refine pure_ (i := 33) (v := undef) (a' := ?_) (bsR 44 34) rfl rfl (by kernel_rfl) (fun _ _ _ h => h) (Or.inr ⟨by rfl, rfl⟩) ?_ ?_; rotate_left; (go_simp; rfl))
       (refine pure_ (i := 34) (v := undef) (a' := ?_) (bsR 44 35) rfl rfl (by kernel_rfl) (fun _ _ _ h => h) (Or.inr ⟨by rfl, rfl⟩) ?_ ?_; rotate_left; (go_simp; rfl))
       (refine pure_ (i := 35) (v := undef) (a' := ?_) (bsR 44 36) rfl rfl (by kernel_rfl) (fun _ _ _ h => h) (Or.inr ⟨by rfl, rfl⟩) ?_ ?_; rotate_left; (go_simp; rfl))
       (refine pure_ (i := 36) (v := undef) (a' := ?_) (bsR 44 37) rfl rfl (by kernel_rfl) (fun _ _ _ h => h) (Or.inr ⟨by rfl, rfl⟩) ?_ ?_; rotate_left; (go_simp; rfl))
       (refine pure_ (i := 37) (v := ?_) (a' := ?_) (bsR 44 38) rfl rfl (by kernel_rfl) (fun _ _ _ h => h) (Or.inl ⟨by rfl, ?_⟩) ?_ ?_; rotate_left; (intro w'; go_simp; with_reducible rfl); rotate_left; (go_simp; rfl))
       (refine pure_ (i := 38) (v := ?_) (a' := ?_) (bsR 44 39) rfl rfl (by kernel_rfl) (fun _ _ _ h => h) (Or.inl ⟨by rfl, ?_⟩) ?_ ?_; rotate_left; (intro w'; go_simp; with_reducible rfl); rotate_left; (go_simp; rfl))
       (refine pure_ (i := 39) (v := undef) (a' := ?_) (bsR 44 40) rfl rfl (by kernel_rfl) (fun _ _ _ h => h) (Or.inr ⟨by rfl, rfl⟩) ?_ ?_; rotate_left; (go_simp; rfl))
       (refine pure_ (i := 40) (v := undef) (a' := ?_) (bsR 44 41) rfl rfl (by kernel_rfl) (fun _ _ _ h => h) (Or.inr ⟨by rfl, rfl⟩) ?_ ?_; rotate_left; (go_simp; rfl))
       (refine pure_ (i := 41) (v := undef) (a' := ?_) (bsR 44 42) rfl rfl (by kernel_rfl) (fun _ _ _ h => h) (Or.inr ⟨by rfl, rfl⟩) ?_ ?_; rotate_left; (go_simp; rfl))
       (refine pure_ (i := 42) (v := undef) (a' := ?_) (bsR 44 43) rfl rfl (by kernel_rfl) (fun _ _ _ h => h) (Or.inr ⟨by rfl, rfl⟩) ?_ ?_; rotate_left; (go_simp; rfl))
       (refine pure_ (i := 43) (v := ?_) (a' := ?_) (bsR 44 44) rfl rfl (by kernel_rfl) (fun _ _ _ h => h) (Or.inl ⟨by rfl, ?_⟩) ?_ ?_; rotate_left; (intro w'; go_simp; with_reducible rfl); rotate_left; (go_simp; rfl))
       refine done_ (by kernel_rfl) ?_
       go_wp2_with fail
       go_meet
       exact ⟨by rw [hbq], HDR⟩
      rw [if_neg (fun h => e3 h.2)] at hbd
      have f3 : decide (y.f0 ≤ pf) = false := decide_eq_false e3
      clear e3 e0
      cases pq with
      | false =>
       have hbq : bq = true := by rw [← hbd, if_pos rfl]
       clear hbd
       refine start_ (n := 44) (S := fun w' => w'.cell? ⟨N, 0, none⟩ = some (.slice (some bd) m d) ∧ w'.cell? ⟨N, 1, none⟩ = some (.int .i64 r) ∧ w'.cell? ⟨N, 2, none⟩ = some (.int .i64 nx) ∧ w'.cell? ⟨b4, 0, none⟩ = some (.int .i64 y.f0) ∧ w'.cell? ⟨b4, 1, none⟩ = some (.int .i64 y.f1) ∧ w'.cell? ⟨b4, 2, none⟩ = some (.string y.f2) ∧ w'.cell? ⟨b4, 3, none⟩ = some (.string y.f3) ∧ w'.cell? ⟨b4, 4, none⟩ = some (.string y.f4) ∧ w'.cell? ⟨b4, 5, none⟩ = some (.slice B5 k5 g5) ∧ w'.cell? ⟨b4, 6, none⟩ = some (.slice B6 k6 g6) ∧ w'.cell? (bd.add (ji.toNat * 7)) = some (.int .i64 pf)) (ds := []) (bsR 44 0) (by kernel_rfl) rfl (by kernel_rfl) ⟨p0, p1, p2, v0, v1, v2, v3, v4, v5, v6, pc⟩ (fun hHeld => ?_)
       (refine pure_ (i := 0) (v := ?_) (a' := ?_) (bsR 44 1) rfl rfl (by kernel_rfl) (fun _ _ _ h => h) (Or.inl ⟨by rfl, ?_⟩) ?_ ?_; rotate_left; (intro w'; go_simp; with_reducible rfl); rotate_left; (go_simp; rfl))
       (refine take_ (i := 1) (v := ?_) (a' := ?_) (bsR 44 2) rfl rfl (by kernel_rfl) (fun _ _ _ h => h) (Or.inl ⟨by rfl, ?_⟩) hHeld ?_ ?_; rotate_left; (rintro w' ⟨s0, s1, s2, s3, s4, s5, s6, s7, s8, s9, s10⟩; go_simp; with_reducible rfl); rotate_left; (go_simp; rfl))
       (refine pure_ (i := 2) (v := ?_) (a' := ?_) (bsR 44 3) rfl rfl (by kernel_rfl) (fun _ _ _ h => h) (Or.inl ⟨by rfl, ?_⟩) ?_ ?_; rotate_left; (intro w'; go_simp; with_reducible rfl); rotate_left; (go_simp; rfl))
       (refine pure_ (i := 3) (v := ?_) (a' := ?_) (bsR 44 4) rfl rfl (by kernel_rfl) (fun _ _ _ h => h) (Or.inl ⟨by rfl, ?_⟩) ?_ ?_; rotate_left; (intro w'; go_simp; with_reducible rfl); rotate_left; (go_simp; rfl))
       (refine pure_ (i := 4) (v := ?_) (a' := ?_) (bsR 44 5) rfl rfl (by kernel_rfl) (fun _ _ _ h => h) (Or.inl ⟨by rfl, ?_⟩) ?_ ?_; rotate_left; (intro w'; go_simp; with_reducible rfl); rotate_left; (go_simp; rfl))
       (refine take_ (i := 5) (v := ?_) (a' := ?_) (bsR 44 6) rfl rfl (by kernel_rfl) (fun _ _ _ h => h) (Or.inl ⟨by rfl, ?_⟩) hHeld ?_ ?_; rotate_left; (rintro w' ⟨s0, s1, s2, s3, s4, s5, s6, s7, s8, s9, s10⟩; go_simp; with_reducible rfl); rotate_left; (go_simp; rfl))
       (refine pure_ (i := 6) (v := ?_) (a' := ?_) (bsR 44 7) rfl rfl (by kernel_rfl) (fun _ _ _ h => h) (Or.inl ⟨by rfl, ?_⟩) ?_ ?_; rotate_left; (intro w'; go_simp; with_reducible rfl); rotate_left; (go_simp; rfl))
       (refine take_ (i := 7) (v := ?_) (a' := ?_) (bsR 44 8) rfl rfl (by kernel_rfl) (fun _ _ _ h => h) (Or.inl ⟨by rfl, ?_⟩) hHeld ?_ ?_; rotate_left; (rintro w' ⟨s0, s1, s2, s3, s4, s5, s6, s7, s8, s9, s10⟩; go_simp; with_reducible rfl); rotate_left; (go_simp; rfl))
       (refine pure_ (i := 8) (v := ?_) (a' := ?_) (bsR 44 9) rfl rfl (by kernel_rfl) (fun _ _ _ h => h) (Or.inl ⟨by rfl, ?_⟩) ?_ ?_; rotate_left; (intro w'; go_simp; with_reducible rfl); rotate_left; (go_simp; rfl))
       (refine pure_ (i := 9) (v := ?_) (a' := ?_) (bsR 44 10) rfl rfl (by kernel_rfl) (fun _ _ _ h => h) (Or.inl ⟨by rfl, ?_⟩) ?_ ?_; rotate_left; (intro w'; go_simp; with_reducible rfl); rotate_left; (go_simp; rfl))
       (refine pure_ (i := 10) (v := ?_) (a' := ?_) (bsR 44 11) rfl rfl (by kernel_rfl) (fun _ _ _ h => h) (Or.inl ⟨by rfl, ?_⟩) ?_ ?_; rotate_left; (intro w'; go_simp; with_reducible rfl); rotate_left; (go_simp; rfl))
       (refine pure_ (i := 11) (v := ?_) (a' := ?_) (bsR 44 12) rfl rfl (by kernel_rfl) (fun _ _ _ h => h) (Or.inl ⟨by rfl, ?_⟩) ?_ ?_; rotate_left; (intro w'; go_simp; with_reducible rfl); rotate_left; (go_simp; rfl))
       (refine pure_ (i := 12) (v := ?_) (a' := ?_) (bsR 44 13) rfl rfl (by kernel_rfl) (fun _ _ _ h => h) (Or.inl ⟨by rfl, ?_⟩) ?_ ?_; rotate_left; (intro w'; go_simp; with_reducible rfl); rotate_left; (go_simp; rfl))
       (refine pure_ (i := 13) (v := ?_) (a' := ?_) (bsR 44 14) rfl rfl (by kernel_rfl) (fun _ _ _ h => h) (Or.inl ⟨by rfl, ?_⟩) ?_ ?_; rotate_left; (intro w'; go_simp; with_reducible rfl); rotate_left; (go_simp; rfl))
       (refine pure_ (i := 14) (v := ?_) (a' := ?_) (bsR 44 15) rfl rfl (by kernel_rfl) (fun _ _ _ h => h) (Or.inl ⟨by rfl, ?_⟩) ?_ ?_; rotate_left; (intro w'; go_simp; with_reducible rfl); rotate_left; (go_simp; rfl))
       (refine take_ (i := 15) (v := ?_) (a' := ?_) (bsR 44 16) rfl rfl (by kernel_rfl) (fun _ _ _ h => h) (Or.inl ⟨by rfl, ?_⟩) hHeld ?_ ?_; rotate_left; (rintro w' ⟨s0, s1, s2, s3, s4, s5, s6, s7, s8, s9, s10⟩; go_simp; with_reducible rfl); rotate_left; (go_simp; rfl))
       (refine pure_ (i := 16) (v := ?_) (a' := ?_) (bsR 44 17) rfl rfl (by kernel_rfl) (fun _ _ _ h => h) (Or.inl ⟨by rfl, ?_⟩) ?_ ?_; rotate_left; (intro w'; go_simp; with_reducible rfl); rotate_left; (go_simp; rfl))
       (refine take_ (i := 17) (v := ?_) (a' := ?_) (bsR 44 18) rfl rfl (by kernel_rfl) (fun _ _ _ h => h) (Or.inl ⟨by rfl, ?_⟩) hHeld ?_ ?_; rotate_left; (rintro w' ⟨s0, s1, s2, s3, s4, s5, s6, s7, s8, s9, s10⟩; go_simp; with_reducible rfl); rotate_left; (go_simp; rfl))
       (refine pure_ (i := 18) (v := ?_) (a' := ?_) (bsR 44 19) rfl rfl (by kernel_rfl) (fun _ _ _ h => h) (Or.inl ⟨by rfl, ?_⟩) ?_ ?_; rotate_left; (intro w'; go_simp; with_reducible rfl); rotate_left; (go_simp; rfl))
       (refine pure_ (i := 19) (v := ?_) (a' := ?_) (bsR 44 20) rfl rfl (by kernel_rfl) (fun _ _ _ h => h) (Or.inl ⟨by rfl, ?_⟩) ?_ ?_; rotate_left; (intro w'; go_simp; with_reducible rfl); rotate_left; (go_simp; rfl))
       (refine pure_ (i := 20) (v := ?_) (a' := ?_) (bsR 44 21) rfl rfl (by kernel_rfl) (fun _ _ _ h => h) (Or.inl ⟨by rfl, ?_⟩) ?_ ?_; rotate_left; (intro w'; go_simp; with_reducible rfl); rotate_left; (go_simp; rfl))
       (refine pure_ (i := 21) (v := ?_) (a' := ?_) (bsR 44 22) rfl rfl (by kernel_rfl) (fun _ _ _ h => h) (Or.inl ⟨by rfl, ?_⟩) ?_ ?_; rotate_left; (intro w'; go_simp; with_reducible rfl); rotate_left; (go_simp; rfl))
       (refine take_ (i := 22) (v := ?_) (a' := ?_) (bsR 44 23) rfl rfl (by kernel_rfl) (fun _ _ _ h => h) (Or.inl ⟨by rfl, ?_⟩) hHeld ?_ ?_; rotate_left; (rintro w' ⟨s0, s1, s2, s3, s4, s5, s6, s7, s8, s9, s10⟩; go_simp; with_reducible rfl); rotate_left; (go_simp; rfl))
       (refine pure_ (i := 23) (v := ?_) (a' := ?_) (bsR 44 24) rfl rfl (by kernel_rfl) (fun _ _ _ h => h) (Or.inl ⟨by rfl, ?_⟩) ?_ ?_; rotate_left; (intro w'; go_simp; with_reducible rfl); rotate_left; (go_simp; rfl))
       (refine pure_ (i := 24) (v := ?_) (a' := ?_) (bsR 44 25) rfl rfl (by kernel_rfl) (fun _ _ _ h => h) (Or.inl ⟨by rfl, ?_⟩) ?_ ?_; rotate_left; (intro w'; go_simp; with_reducible rfl); rotate_left; (go_simp; rfl))
       (refine pure_ (i := 25) (v := ?_) (a' := ?_) (bsR 44 26) rfl rfl (by kernel_rfl) (fun _ _ _ h => h) (Or.inl ⟨by rfl, ?_⟩) ?_ ?_; rotate_left; (intro w'; go_simp; with_reducible rfl); rotate_left; (go_simp; rfl))
       (refine pure_ (i := 26) (v := ?_) (a' := ?_) (bsR 44 27) rfl rfl (by kernel_rfl) (fun _ _ _ h => h) (Or.inl ⟨by rfl, ?_⟩) ?_ ?_; rotate_left; (intro w'; go_simp; with_reducible rfl); rotate_left; (go_simp; rfl))
       (refine pure_ (i := 27) (v := ?_) (a' := ?_) (bsR 44 28) rfl rfl (by kernel_rfl) (fun _ _ _ h => h) (Or.inl ⟨by rfl, ?_⟩) ?_ ?_; rotate_left; (intro w'; go_simp; with_reducible rfl); rotate_left; (go_simp; rfl))
       (refine take_ (i := 28) (v := ?_) (a' := ?_) (bsR 44 29) rfl rfl (by kernel_rfl) (fun _ _ _ h => h) (Or.inl ⟨by rfl, ?_⟩) hHeld ?_ ?_; rotate_left; (rintro w' ⟨s0, s1, s2, s3, s4, s5, s6, s7, s8, s9, s10⟩; go_simp; with_reducible rfl); rotate_left; (go_simp; rfl))
       (refine pure_ (i := 29) (v := ?_) (a' := ?_) (bsR 44 30) rfl rfl (by kernel_rfl) (fun _ _ _ h => h) (Or.inl ⟨by rfl, ?_⟩) ?_ ?_; rotate_left; (intro w'; go_simp; with_reducible rfl); rotate_left; (go_simp; rfl))
       (refine take_ (i := 30) (v := ?_) (a' := ?_) (bsR 44 31) rfl rfl (by kernel_rfl) (fun _ _ _ h => h) (Or.inl ⟨by rfl, ?_⟩) hHeld ?_ ?_; rotate_left; (rintro w' ⟨s0, s1, s2, s3, s4, s5, s6, s7, s8, s9, s10⟩; go_simp; with_reducible rfl); rotate_left; (go_simp; rfl))
       (refine pure_ (i := 31) (v := ?_) (a' := ?_) (bsR 44 32) rfl rfl (by kernel_rfl) (fun _ _ _ h => h) (Or.inl ⟨by rfl, ?_⟩) ?_ ?_; rotate_left; (intro w'; go_simp; with_reducible rfl); rotate_left; (go_simp; rfl))
       (refine take_ (i := 32) (v := ?_) (a' := ?_) (bsR 44 33) rfl rfl (by kernel_rfl) (fun _ _ _ h => h) (Or.inl ⟨by rfl, ?_⟩) hHeld ?_ ?_; rotate_left; (rintro w' ⟨s0, s1, s2, s3, s4, s5, s6, s7, s8, s9, s10⟩; go_simp; with_reducible rfl); rotate_left; (go_simp; rfl))
       (refine pure_ (i := 33) (v := ?_) (a' := ?_) (bsR 44 34) rfl rfl (by kernel_rfl) (fun _ _ _ h => h) (Or.inl ⟨by rfl, ?_⟩) ?_ ?_; rotate_left; (intro w'; go_simp; with_reducible rfl); rotate_left; (go_simp; rfl))
       (refine take_ (i := 34) (v := ?_) (a' := ?_) (bsR 44 35) rfl rfl (by kernel_rfl) (fun _ _ _ h => h) (Or.inl ⟨by rfl, ?_⟩) hHeld ?_ ?_; rotate_left; (rintro w' ⟨s0, s1, s2, s3, s4, s5, s6, s7, s8, s9, s10⟩; go_simp; with_reducible rfl); rotate_left; (go_simp; rfl))
       refine one_ (i := 35) (N := (some 68)) (bsR 44 36) rfl rfl (by kernel_rfl) (by decide) (fun K hK => ?_)
       refine goes_ Try.func50 (by kernel_rfl) rfl #[.string y.f2, .string y.f3, .string y.f4, .slice B5 k5 g5] (by rfl) rfl rfl (by (try simp only [List.map_toArray, List.map_cons, List.map_nil]); first | done | rfl) ?_
       refine (HPB.out _ HDR.out).mono ?_
       rintro e w8 ⟨rfl, hb8⟩
       refine ⟨_, rfl, ?_⟩
       have HB8 : Aside0 (Below wc.heap.size wc w8) := ⟨HDR.out.trans hb8⟩
       clear hb8
       refine hK.out _ _ ⟨pw_cell_below HB8.out p0, pw_cell_below HB8.out p1, pw_cell_below HB8.out p2, pw_cell_below HB8.out v0, pw_cell_below HB8.out v1, pw_cell_below HB8.out v2, pw_cell_below HB8.out v3, pw_cell_below HB8.out v4, pw_cell_below HB8.out v5, pw_cell_below HB8.out v6, pw_cell_below HB8.out pc⟩ (fun hHeld => ?_)
       clear hK K
       (refine norm_ (a' := ?_) ?_ ?_; rotate_left; (show Act.put _ (some 68) _ = _; (go_simp; rfl)))
       (refine pure_ (i := 36) (v := ?_) (a' := ?_) (bsR 44 37) rfl rfl (by kernel_rfl) (fun _ _ _ h => h) (Or.inl ⟨by rfl, ?_⟩) ?_ ?_; rotate_left; (intro w'; go_simp; with_reducible rfl); rotate_left; (go_simp; rfl))
       (refine pure_ (i := 37) (v := ?_) (a' := ?_) (bsR 44 38) rfl rfl (by kernel_rfl) (fun _ _ _ h => h) (Or.inl ⟨by rfl, ?_⟩) ?_ ?_; rotate_left; (intro w'; go_simp; with_reducible rfl); rotate_left; (go_simp; rfl))
       (refine pure_ (i := 38) (v := ?_) (a' := ?_) (bsR 44 39) rfl rfl (by kernel_rfl) (fun _ _ _ h => h) (Or.inl ⟨by rfl, ?_⟩) ?_ ?_; rotate_left; (intro w'; go_simp; with_reducible rfl); rotate_left; (go_simp; rfl))
       (refine pure_ (i := 39) (v := undef) (a' := ?_) (bsR 44 40) rfl rfl (by kernel_rfl) (fun _ _ _ h => h) (Or.inr ⟨by rfl, rfl⟩) ?_ ?_; rotate_left; (go_simp; rfl))
       (refine pure_ (i := 40) (v := undef) (a' := ?_) (bsR 44 41) rfl rfl (by kernel_rfl) (fun _ _ _ h => h) (Or.inr ⟨by rfl, rfl⟩) ?_ ?_; rotate_left; (go_simp; rfl))
       (refine pure_ (i := 41) (v := undef) (a' := ?_) (bsR 44 42) rfl rfl (by kernel_rfl) (fun _ _ _ h => h) (Or.inr ⟨by rfl, rfl⟩) ?_ ?_; rotate_left; (go_simp; rfl))
       (refine pure_ (i := 42) (v := undef) (a' := ?_) (bsR 44 43) rfl rfl (by kernel_rfl) (fun _ _ _ h => h) (Or.inr ⟨by rfl, rfl⟩) ?_ ?_; rotate_left; (go_simp; rfl))
       (refine pure_ (i := 43) (v := ?_) (a' := ?_) (bsR 44 44) rfl rfl (by kernel_rfl) (fun _ _ _ h => h) (Or.inl ⟨by rfl, ?_⟩) ?_ ?_; rotate_left; (intro w'; go_simp; with_reducible rfl); rotate_left; (go_simp; rfl))
       refine done_ (by kernel_rfl) ?_
       go_wp2_with fail
       go_meet
       exact ⟨by rw [hbq], HB8⟩
      | true =>
       have hbq : bq = !kq := by rw [← hbd, if_neg (by decide)]
       clear hbd
       refine start_ (n := 44) (S := fun w' => w'.cell? ⟨N, 0, none⟩ = some (.slice (some bd) m d) ∧ w'.cell? ⟨N, 1, none⟩ = some (.int .i64 r) ∧ w'.cell? ⟨N, 2, none⟩ = some (.int .i64 nx) ∧ w'.cell? ⟨b4, 0, none⟩ = some (.int .i64 y.f0) ∧ w'.cell? ⟨b4, 1, none⟩ = some (.int .i64 y.f1) ∧ w'.cell? ⟨b4, 2, none⟩ = some (.string y.f2) ∧ w'.cell? ⟨b4, 3, none⟩ = some (.string y.f3) ∧ w'.cell? ⟨b4, 4, none⟩ = some (.string y.f4) ∧ w'.cell? ⟨b4, 5, none⟩ = some (.slice B5 k5 g5) ∧ w'.cell? ⟨b4, 6, none⟩ = some (.slice B6 k6 g6) ∧ w'.cell? (bd.add (ji.toNat * 7)) = some (.int .i64 pf)) (ds := []) (bsR 44 0) (by kernel_rfl) rfl (by kernel_rfl) ⟨p0, p1, p2, v0, v1, v2, v3, v4, v5, v6, pc⟩ (fun hHeld => ?_)
       (refine pure_ (i := 0) (v := ?_) (a' := ?_) (bsR 44 1) rfl rfl (by kernel_rfl) (fun _ _ _ h => h) (Or.inl ⟨by rfl, ?_⟩) ?_ ?_; rotate_left; (intro w'; go_simp; with_reducible rfl); rotate_left; (go_simp; rfl))
       (refine take_ (i := 1) (v := ?_) (a' := ?_) (bsR 44 2) rfl rfl (by kernel_rfl) (fun _ _ _ h => h) (Or.inl ⟨by rfl, ?_⟩) hHeld ?_ ?_; rotate_left; (rintro w' ⟨s0, s1, s2, s3, s4, s5, s6, s7, s8, s9, s10⟩; go_simp; with_reducible rfl); rotate_left; (go_simp; rfl))
       (refine pure_ (i := 2) (v := ?_) (a' := ?_) (bsR 44 3) rfl rfl (by kernel_rfl) (fun _ _ _ h => h) (Or.inl ⟨by rfl, ?_⟩) ?_ ?_; rotate_left; (intro w'; go_simp; with_reducible rfl); rotate_left; (go_simp; rfl))
       (refine pure_ (i := 3) (v := ?_) (a' := ?_) (bsR 44 4) rfl rfl (by kernel_rfl) (fun _ _ _ h => h) (Or.inl ⟨by rfl, ?_⟩) ?_ ?_; rotate_left; (intro w'; go_simp; with_reducible rfl); rotate_left; (go_simp; rfl))
       (refine pure_ (i := 4) (v := ?_) (a' := ?_) (bsR 44 5) rfl rfl (by kernel_rfl) (fun _ _ _ h => h) (Or.inl ⟨by rfl, ?_⟩) ?_ ?_; rotate_left; (intro w'; go_simp; with_reducible rfl); rotate_left; (go_simp; rfl))
       (refine take_ (i := 5) (v := ?_) (a' := ?_) (bsR 44 6) rfl rfl (by kernel_rfl) (fun _ _ _ h => h) (Or.inl ⟨by rfl, ?_⟩) hHeld ?_ ?_; rotate_left; (rintro w' ⟨s0, s1, s2, s3, s4, s5, s6, s7, s8, s9, s10⟩; go_simp; with_reducible rfl); rotate_left; (go_simp; rfl))
       (refine pure_ (i := 6) (v := ?_) (a' := ?_) (bsR 44 7) rfl rfl (by kernel_rfl) (fun _ _ _ h => h) (Or.inl ⟨by rfl, ?_⟩) ?_ ?_; rotate_left; (intro w'; go_simp; with_reducible rfl); rotate_left; (go_simp; rfl))
       (refine take_ (i := 7) (v := ?_) (a' := ?_) (bsR 44 8) rfl rfl (by kernel_rfl) (fun _ _ _ h => h) (Or.inl ⟨by rfl, ?_⟩) hHeld ?_ ?_; rotate_left; (rintro w' ⟨s0, s1, s2, s3, s4, s5, s6, s7, s8, s9, s10⟩; go_simp; with_reducible rfl); rotate_left; (go_simp; rfl))
       (refine pure_ (i := 8) (v := ?_) (a' := ?_) (bsR 44 9) rfl rfl (by kernel_rfl) (fun _ _ _ h => h) (Or.inl ⟨by rfl, ?_⟩) ?_ ?_; rotate_left; (intro w'; go_simp; with_reducible rfl); rotate_left; (go_simp; rfl))
       (refine pure_ (i := 9) (v := ?_) (a' := ?_) (bsR 44 10) rfl rfl (by kernel_rfl) (fun _ _ _ h => h) (Or.inl ⟨by rfl, ?_⟩) ?_ ?_; rotate_left; (intro w'; go_simp; with_reducible rfl); rotate_left; (go_simp; rfl))
       (refine pure_ (i := 10) (v := ?_) (a' := ?_) (bsR 44 11) rfl rfl (by kernel_rfl) (fun _ _ _ h => h) (Or.inl ⟨by rfl, ?_⟩) ?_ ?_; rotate_left; (intro w'; go_simp; with_reducible rfl); rotate_left; (go_simp; rfl))
       (refine pure_ (i := 11) (v := ?_) (a' := ?_) (bsR 44 12) rfl rfl (by kernel_rfl) (fun _ _ _ h => h) (Or.inl ⟨by rfl, ?_⟩) ?_ ?_; rotate_left; (intro w'; go_simp; with_reducible rfl); rotate_left; (go_simp; rfl))
       (refine pure_ (i := 12) (v := ?_) (a' := ?_) (bsR 44 13) rfl rfl (by kernel_rfl) (fun _ _ _ h => h) (Or.inl ⟨by rfl, ?_⟩) ?_ ?_; rotate_left; (intro w'; go_simp; with_reducible rfl); rotate_left; (go_simp; rfl))
       (refine pure_ (i := 13) (v := ?_) (a' := ?_) (bsR 44 14) rfl rfl (by kernel_rfl) (fun _ _ _ h => h) (Or.inl ⟨by rfl, ?_⟩) ?_ ?_; rotate_left; (intro w'; go_simp; with_reducible rfl); rotate_left; (go_simp; rfl))
       (refine pure_ (i := 14) (v := ?_) (a' := ?_) (bsR 44 15) rfl rfl (by kernel_rfl) (fun _ _ _ h => h) (Or.inl ⟨by rfl, ?_⟩) ?_ ?_; rotate_left; (intro w'; go_simp; with_reducible rfl); rotate_left; (go_simp; rfl))
       (refine take_ (i := 15) (v := ?_) (a' := ?_) (bsR 44 16) rfl rfl (by kernel_rfl) (fun _ _ _ h => h) (Or.inl ⟨by rfl, ?_⟩) hHeld ?_ ?_; rotate_left; (rintro w' ⟨s0, s1, s2, s3, s4, s5, s6, s7, s8, s9, s10⟩; go_simp; with_reducible rfl); rotate_left; (go_simp; rfl))
       (refine pure_ (i := 16) (v := ?_) (a' := ?_) (bsR 44 17) rfl rfl (by kernel_rfl) (fun _ _ _ h => h) (Or.inl ⟨by rfl, ?_⟩) ?_ ?_; rotate_left; (intro w'; go_simp; with_reducible rfl); rotate_left; (go_simp; rfl))
       (refine take_ (i := 17) (v := ?_) (a' := ?_) (bsR 44 18) rfl rfl (by kernel_rfl) (fun _ _ _ h => h) (Or.inl ⟨by rfl, ?_⟩) hHeld ?_ ?_; rotate_left; (rintro w' ⟨s0, s1, s2, s3, s4, s5, s6, s7, s8, s9, s10⟩; go_simp; with_reducible rfl); rotate_left; (go_simp; rfl))
       (refine pure_ (i := 18) (v := ?_) (a' := ?_) (bsR 44 19) rfl rfl (by kernel_rfl) (fun _ _ _ h => h) (Or.inl ⟨by rfl, ?_⟩) ?_ ?_; rotate_left; (intro w'; go_simp; with_reducible rfl); rotate_left; (go_simp; rfl))
       (refine pure_ (i := 19) (v := ?_) (a' := ?_) (bsR 44 20) rfl rfl (by kernel_rfl) (fun _ _ _ h => h) (Or.inl ⟨by rfl, ?_⟩) ?_ ?_; rotate_left; (intro w'; go_simp; with_reducible rfl); rotate_left; (go_simp; rfl))
       (refine pure_ (i := 20) (v := ?_) (a' := ?_) (bsR 44 21) rfl rfl (by kernel_rfl) (fun _ _ _ h => h) (Or.inl ⟨by rfl, ?_⟩) ?_ ?_; rotate_left; (intro w'; go_simp; with_reducible rfl); rotate_left; (go_simp; rfl))
       (refine pure_ (i := 21) (v := ?_) (a' := ?_) (bsR 44 22) rfl rfl (by kernel_rfl) (fun _ _ _ h => h) (Or.inl ⟨by rfl, ?_⟩) ?_ ?_; rotate_left; (intro w'; go_simp; with_reducible rfl); rotate_left; (go_simp; rfl))
       (refine take_ (i := 22) (v := ?_) (a' := ?_) (bsR 44 23) rfl rfl (by kernel_rfl) (fun _ _ _ h => h) (Or.inl ⟨by rfl, ?_⟩) hHeld ?_ ?_; rotate_left; (rintro w' ⟨s0, s1, s2, s3, s4, s5, s6, s7, s8, s9, s10⟩; go_simp; with_reducible rfl); rotate_left; (go_simp; rfl))
       (refine pure_ (i := 23) (v := ?_) (a' := ?_) (bsR 44 24) rfl rfl (by kernel_rfl) (fun _ _ _ h => h) (Or.inl ⟨by rfl, ?_⟩) ?_ ?_; rotate_left; (intro w'; go_simp; with_reducible rfl); rotate_left; (go_simp; rfl))
       (refine pure_ (i := 24) (v := ?_) (a' := ?_) (bsR 44 25) rfl rfl (by kernel_rfl) (fun _ _ _ h => h) (Or.inl ⟨by rfl, ?_⟩) ?_ ?_; rotate_left; (intro w'; go_simp; with_reducible rfl); rotate_left; (go_simp; rfl))
       (refine pure_ (i := 25) (v := ?_) (a' := ?_) (bsR 44 26) rfl rfl (by kernel_rfl) (fun _ _ _ h => h) (Or.inl ⟨by rfl, ?_⟩) ?_ ?_; rotate_left; (intro w'; go_simp; with_reducible rfl); rotate_left; (go_simp; rfl))
       (refine pure_ (i := 26) (v := ?_) (a' := ?_) (bsR 44 27) rfl rfl (by kernel_rfl) (fun _ _ _ h => h) (Or.inl ⟨by rfl, ?_⟩) ?_ ?_; rotate_left; (intro w'; go_simp; with_reducible rfl); rotate_left; (go_simp; rfl))
       (refine pure_ (i := 27) (v := ?_) (a' := ?_) (bsR 44 28) rfl rfl (by kernel_rfl) (fun _ _ _ h => h) (Or.inl ⟨by rfl, ?_⟩) ?_ ?_; rotate_left; (intro w'; go_simp; with_reducible rfl); rotate_left; (go_simp; rfl))
       (refine take_ (i := 28) (v := ?_) (a' := ?_) (bsR 44 29) rfl rfl (by kernel_rfl) (fun _ _ _ h => h) (Or.inl ⟨by rfl, ?_⟩) hHeld ?_ ?_; rotate_left; (rintro w' ⟨s0, s1, s2, s3, s4, s5, s6, s7, s8, s9, s10⟩; go_simp; with_reducible rfl); rotate_left; (go_simp; rfl))
       (refine pure_ (i := 29) (v := ?_) (a' := ?_) (bsR 44 30) rfl rfl (by kernel_rfl) (fun _ _ _ h => h) (Or.inl ⟨by rfl, ?_⟩) ?_ ?_; rotate_left; (intro w'; go_simp; with_reducible rfl); rotate_left; (go_simp; rfl))
       (refine take_ (i := 30) (v := ?_) (a' := ?_) (bsR 44 31) rfl rfl (by kernel_rfl) (fun _ _ _ h => h) (Or.inl ⟨by rfl, ?_⟩) hHeld ?_ ?_; rotate_left; (rintro w' ⟨s0, s1, s2, s3, s4, s5, s6, s7, s8, s9, s10⟩; go_simp; with_reducible rfl); rotate_left; (go_simp; rfl))
       (refine pure_ (i := 31) (v := ?_) (a' := ?_) (bsR 44 32) rfl rfl (by kernel_rfl) (fun _ _ _ h => h) (Or.inl ⟨by rfl, ?_⟩) ?_ ?_; rotate_left; (intro w'; go_simp; with_reducible rfl); rotate_left; (go_simp; rfl))
       (refine take_ (i := 32) (v := ?_) (a' := ?_) (bsR 44 33) rfl rfl (by kernel_rfl) (fun _ _ _ h => h) (Or.inl ⟨by rfl, ?_⟩) hHeld ?_ ?_; rotate_left; (rintro w' ⟨s0, s1, s2, s3, s4, s5, s6, s7, s8, s9, s10⟩; go_simp; with_reducible rfl); rotate_left; (go_simp; rfl))
       (refine pure_ (i := 33) (v := ?_) (a' := ?_) (bsR 44 34) rfl rfl (by kernel_rfl) (fun _ _ _ h => h) (Or.inl ⟨by rfl, ?_⟩) ?_ ?_; rotate_left; (intro w'; go_simp; with_reducible rfl); rotate_left; (go_simp; rfl))
       (refine take_ (i := 34) (v := ?_) (a' := ?_) (bsR 44 35) rfl rfl (by kernel_rfl) (fun _ _ _ h => h) (Or.inl ⟨by rfl, ?_⟩) hHeld ?_ ?_; rotate_left; (rintro w' ⟨s0, s1, s2, s3, s4, s5, s6, s7, s8, s9, s10⟩; go_simp; with_reducible rfl); rotate_left; (go_simp; rfl))
       refine one_ (i := 35) (N := (some 68)) (bsR 44 36) rfl rfl (by kernel_rfl) (by decide) (fun K hK => ?_)
       refine goes_ Try.func50 (by kernel_rfl) rfl #[.string y.f2, .string y.f3, .string y.f4, .slice B5 k5 g5] (by rfl) rfl rfl (by (try simp only [List.map_toArray, List.map_cons, List.map_nil]); first | done | rfl) ?_
       refine (HPB.out _ HDR.out).mono ?_
       rintro e w8 ⟨rfl, hb8⟩
       refine ⟨_, rfl, ?_⟩
       have HB8 : Aside0 (Below wc.heap.size wc w8) := ⟨HDR.out.trans hb8⟩
       clear hb8
       refine hK.out _ _ ⟨pw_cell_below HB8.out p0, pw_cell_below HB8.out p1, pw_cell_below HB8.out p2, pw_cell_below HB8.out v0, pw_cell_below HB8.out v1, pw_cell_below HB8.out v2, pw_cell_below HB8.out v3, pw_cell_below HB8.out v4, pw_cell_below HB8.out v5, pw_cell_below HB8.out v6, pw_cell_below HB8.out pc⟩ (fun hHeld => ?_)
       clear hK K
       (refine norm_ (a' := ?_) ?_ ?_; rotate_left; (show Act.put _ (some 68) _ = _; (go_simp; rfl)))
       (refine pure_ (i := 36) (v := ?_) (a' := ?_) (bsR 44 37) rfl rfl (by kernel_rfl) (fun _ _ _ h => h) (Or.inl ⟨by rfl, ?_⟩) ?_ ?_; rotate_left; (intro w'; go_simp; with_reducible rfl); rotate_left; (go_simp; rfl))
       (refine pure_ (i := 37) (v := ?_) (a' := ?_) (bsR 44 38) rfl rfl (by kernel_rfl) (fun _ _ _ h => h) (Or.inl ⟨by rfl, ?_⟩) ?_ ?_; rotate_left; (intro w'; go_simp; with_reducible rfl); rotate_left; (go_simp; rfl))
       (refine pure_ (i := 38) (v := ?_) (a' := ?_) (bsR 44 39) rfl rfl (by kernel_rfl) (fun _ _ _ h => h) (Or.inl ⟨by rfl, ?_⟩) ?_ ?_; rotate_left; (intro w'; go_simp; with_reducible rfl); rotate_left; (go_simp; rfl))
       (refine take_ (i := 39) (v := ?_) (a' := ?_) (bsR 44 40) rfl rfl (by kernel_rfl) (fun _ _ _ h => h) (Or.inl ⟨by rfl, ?_⟩) hHeld ?_ ?_; rotate_left; (rintro w' ⟨s0, s1, s2, s3, s4, s5, s6, s7, s8, s9, s10⟩; go_simp; with_reducible rfl); rotate_left; (go_simp; rfl))
       (refine take_ (i := 40) (v := ?_) (a' := ?_) (bsR 44 41) rfl rfl (by kernel_rfl) (fun _ _ _ h => h) (Or.inl ⟨by rfl, ?_⟩) hHeld ?_ ?_; rotate_left; (rintro w' ⟨s0, s1, s2, s3, s4, s5, s6, s7, s8, s9, s10⟩; go_simp; with_reducible rfl); rotate_left; (go_simp; rfl))
       refine one_ (i := 41) (N := (some 74)) (bsR 44 42) rfl rfl (by kernel_rfl) (by decide) (fun K hK => ?_)
       refine goes_ Try.func51 (by kernel_rfl) rfl #[.agg #[.slice (some bd) m d, .int .i64 r, .int .i64 nx], .agg #[.int .i64 y.f0, .int .i64 y.f1, .string y.f2, .string y.f3, .string y.f4, .slice B5 k5 g5, .slice B6 k6 g6]] (by rfl) rfl rfl (by (try simp only [List.map_toArray, List.map_cons, List.map_nil]); first | done | rfl) ?_
       refine (HKB.out _ HB8.out).mono ?_
       rintro e w9 ⟨rfl, hb9⟩
       refine ⟨_, rfl, ?_⟩
       have HB9 : Aside0 (Below wc.heap.size wc w9) := ⟨HB8.out.trans (hb9.mono HB8.out.size)⟩
       clear hb9
       refine hK.out _ _ ⟨pw_cell_below HB9.out p0, pw_cell_below HB9.out p1, pw_cell_below HB9.out p2, pw_cell_below HB9.out v0, pw_cell_below HB9.out v1, pw_cell_below HB9.out v2, pw_cell_below HB9.out v3, pw_cell_below HB9.out v4, pw_cell_below HB9.out v5, pw_cell_below HB9.out v6, pw_cell_below HB9.out pc⟩ (fun hHeld => ?_)
       clear hK K
       (refine norm_ (a' := ?_) ?_ ?_; rotate_left; (show Act.put _ (some 74) _ = _; (go_simp; rfl)))
       (refine pure_ (i := 42) (v := ?_) (a' := ?_) (bsR 44 43) rfl rfl (by kernel_rfl) (fun _ _ _ h => h) (Or.inl ⟨by rfl, ?_⟩) ?_ ?_; rotate_left; (intro w'; go_simp; with_reducible rfl); rotate_left; (go_simp; rfl))
       (refine pure_ (i := 43) (v := ?_) (a' := ?_) (bsR 44 44) rfl rfl (by kernel_rfl) (fun _ _ _ h => h) (Or.inl ⟨by rfl, ?_⟩) ?_ ?_; rotate_left; (intro w'; go_simp; with_reducible rfl); rotate_left; (go_simp; rfl))
       refine done_ (by kernel_rfl) ?_
       go_wp2_with fail
       go_meet
       exact ⟨by rw [hbq], HB9⟩
     ·
      have f0 : decide ((j : Int) > 0) = false := decide_eq_false (by omega)
      have f0n : decide (0 < j) = false := decide_eq_false e0
      rw [if_neg (fun h => e0 h.1)] at hbd
      clear e0
      cases pq with
      | false =>
       have hbq : bq = true := by rw [← hbd, if_pos rfl]
       clear hbd
       refine start_ (n := 44) (S := fun w' => w'.cell? ⟨N, 0, none⟩ = some (.slice (some bd) m d) ∧ w'.cell? ⟨N, 1, none⟩ = some (.int .i64 r) ∧ w'.cell? ⟨N, 2, none⟩ = some (.int .i64 nx) ∧ w'.cell? ⟨b4, 0, none⟩ = some (.int .i64 y.f0) ∧ w'.cell? ⟨b4, 1, none⟩ = some (.int .i64 y.f1) ∧ w'.cell? ⟨b4, 2, none⟩ = some (.string y.f2) ∧ w'.cell? ⟨b4, 3, none⟩ = some (.string y.f3) ∧ w'.cell? ⟨b4, 4, none⟩ = some (.string y.f4) ∧ w'.cell? ⟨b4, 5, none⟩ = some (.slice B5 k5 g5) ∧ w'.cell? ⟨b4, 6, none⟩ = some (.slice B6 k6 g6)) (ds := []) (bsR 44 0) (by kernel_rfl) rfl (by kernel_rfl) ⟨p0, p1, p2, v0, v1, v2, v3, v4, v5, v6⟩ (fun hHeld => ?_)
       (refine pure_ (i := 0) (v := ?_) (a' := ?_) (bsR 44 1) rfl rfl (by kernel_rfl) (fun _ _ _ h => h) (Or.inl ⟨by rfl, ?_⟩) ?_ ?_; rotate_left; (intro w'; go_simp; with_reducible rfl); rotate_left; (go_simp; rfl))
       (refine take_ (i := 1) (v := ?_) (a' := ?_) (bsR 44 2) rfl rfl (by kernel_rfl) (fun _ _ _ h => h) (Or.inl ⟨by rfl, ?_⟩) hHeld ?_ ?_; rotate_left; (rintro w' ⟨s0, s1, s2, s3, s4, s5, s6, s7, s8, s9⟩; go_simp; with_reducible rfl); rotate_left; (go_simp; rfl))
       (refine pure_ (i := 2) (v := ?_) (a' := ?_) (bsR 44 3) rfl rfl (by kernel_rfl) (fun _ _ _ h => h) (Or.inl ⟨by rfl, ?_⟩) ?_ ?_; rotate_left; (intro w'; go_simp; with_reducible rfl); rotate_left; (go_simp; rfl))
       (refine pure_ (i := 3) (v := ?_) (a' := ?_) (bsR 44 4) rfl rfl (by kernel_rfl) (fun _ _ _ h => h) (Or.inl ⟨by rfl, ?_⟩) ?_ ?_; rotate_left; (intro w'; go_simp; with_reducible rfl); rotate_left; (go_simp; rfl))
       (refine pure_ (i := 4) (v := ?_) (a' := ?_) (bsR 44 5) rfl rfl (by kernel_rfl) (fun _ _ _ h => h) (Or.inl ⟨by rfl, ?_⟩) ?_ ?_; rotate_left; (intro w'; go_simp; with_reducible rfl); rotate_left; (go_simp; rfl))
       (refine take_ (i := 5) (v := ?_) (a' := ?_) (bsR 44 6) rfl rfl (by kernel_rfl) (fun _ _ _ h => h) (Or.inl ⟨by rfl, ?_⟩) hHeld ?_ ?_; rotate_left; (rintro w' ⟨s0, s1, s2, s3, s4, s5, s6, s7, s8, s9⟩; go_simp; with_reducible rfl); rotate_left; (go_simp; rfl))
       (refine pure_ (i := 6) (v := ?_) (a' := ?_) (bsR 44 7) rfl rfl (by kernel_rfl) (fun _ _ _ h => h) (Or.inl ⟨by rfl, ?_⟩) ?_ ?_; rotate_left; (intro w'; go_simp; with_reducible rfl); rotate_left; (go_simp; rfl))
       (refine take_ (i := 7) (v := ?_) (a' := ?_) (bsR 44 8) rfl rfl (by kernel_rfl) (fun _ _ _ h => h) (Or.inl ⟨by rfl, ?_⟩) hHeld ?_ ?_; rotate_left; (rintro w' ⟨s0, s1, s2, s3, s4, s5, s6, s7, s8, s9⟩; go_simp; with_reducible rfl); rotate_left; (go_simp; rfl))
       (refine pure_ (i := 8) (v := ?_) (a' := ?_) (bsR 44 9) rfl rfl (by kernel_rfl) (fun _ _ _ h => h) (Or.inl ⟨by rfl, ?_⟩) ?_ ?_; rotate_left; (intro w'; go_simp; with_reducible rfl); rotate_left; (go_simp; rfl))
       (refine pure_ (i := 9) (v := ?_) (a' := ?_) (bsR 44 10) rfl rfl (by kernel_rfl) (fun _ _ _ h => h) (Or.inl ⟨by rfl, ?_⟩) ?_ ?_; rotate_left; (intro w'; go_simp; with_reducible rfl); rotate_left; (go_simp; rfl))
       (refine pure_ (i := 10) (v := ?_) (a' := ?_) (bsR 44 11) rfl rfl (by kernel_rfl) (fun _ _ _ h => h) (Or.inl ⟨by rfl, ?_⟩) ?_ ?_; rotate_left; (intro w'; go_simp; with_reducible rfl); rotate_left; (go_simp; rfl))
       (refine pure_ (i := 11) (v := ?_) (a' := ?_) (bsR 44 12) rfl rfl (by kernel_rfl) (fun _ _ _ h => h) (Or.inl ⟨by rfl, ?_⟩) ?_ ?_; rotate_left; (intro w'; go_simp; with_reducible rfl); rotate_left; (go_simp; rfl))
       (refine pure_ (i := 12) (v := ?_) (a' := ?_) (bsR 44 13) rfl rfl (by kernel_rfl) (fun _ _ _ h => h) (Or.inl ⟨by rfl, ?_⟩) ?_ ?_; rotate_left; (intro w'; go_simp; with_reducible rfl); rotate_left; (go_simp; rfl))
       (refine pure_ (i := 13) (v := ?_) (a' := ?_) (bsR 44 14) rfl rfl (by kernel_rfl) (fun _ _ _ h => h) (Or.inl ⟨by rfl, ?_⟩) ?_ ?_; rotate_left; (intro w'; go_simp; with_reducible rfl); rotate_left; (go_simp; rfl))
       (refine pure_ (i := 14) (v := undef) (a' := ?_) (bsR 44 15) rfl rfl (by kernel_rfl) (fun _ _ _ h => h) (Or.inr ⟨by rfl, rfl⟩) ?_ ?_; rotate_left; (go_simp; rfl))
       (refine pure_ (i := 15) (v := undef) (a' := ?_) (bsR 44 16) rfl rfl (by kernel_rfl) (fun _ _ _ h => h) (Or.inr ⟨by rfl, rfl⟩) ?_ ?_; rotate_left; (go_simp; rfl))
       (refine pure_ (i := 16) (v := undef) (a' := ?_) (bsR 44 17) rfl rfl (by kernel_rfl) (fun _ _ _ h => h) (Or.inr ⟨by rfl, rfl⟩) ?_ ?_; rotate_left; (go_simp; rfl))
       (refine pure_ (i := 17) (v := undef) (a' := ?_) (bsR 44 18) rfl rfl (by kernel_rfl) (fun _ _ _ h => h) (Or.inr ⟨by rfl, rfl⟩) ?_ ?_; rotate_left; (go_simp; rfl))
       (refine pure_ (i := 18) (v := undef) (a' := ?_) (bsR 44 19) rfl rfl (by kernel_rfl) (fun _ _ _ h => h) (Or.inr ⟨by rfl, rfl⟩) ?_ ?_; rotate_left; (go_simp; rfl))
       (refine pure_ (i := 19) (v := undef) (a' := ?_) (bsR 44 20) rfl rfl (by kernel_rfl) (fun _ _ _ h => h) (Or.inr ⟨by rfl, rfl⟩) ?_ ?_; rotate_left; (go_simp; rfl))
       (refine pure_ (i := 20) (v := undef) (a' := ?_) (bsR 44 21) rfl rfl (by kernel_rfl) (fun _ _ _ h => h) (Or.inr ⟨by rfl, rfl⟩) ?_ ?_; rotate_left; (go_simp; rfl))
       (refine pure_ (i := 21) (v := undef) (a' := ?_) (bsR 44 22) rfl rfl (by kernel_rfl) (fun _ _ _ h => h) (Or.inr ⟨by rfl, rfl⟩) ?_ ?_; rotate_left; (go_simp; rfl))
       (refine pure_ (i := 22) (v := undef) (a' := ?_) (bsR 44 23) rfl rfl (by kernel_rfl) (fun _ _ _ h => h) (Or.inr ⟨by rfl, rfl⟩) ?_ ?_; rotate_left; (go_simp; rfl))
       (refine pure_ (i := 23) (v := undef) (a' := ?_) (bsR 44 24) rfl rfl (by kernel_rfl) (fun _ _ _ h => h) (Or.inr ⟨by rfl, rfl⟩) ?_ ?_; rotate_left; (go_simp; rfl))
       (refine pure_ (i := 24) (v := ?_) (a' := ?_) (bsR 44 25) rfl rfl (by kernel_rfl) (fun _ _ _ h => h) (Or.inl ⟨by rfl, ?_⟩) ?_ ?_; rotate_left; (intro w'; go_simp; with_reducible rfl); rotate_left; (go_simp; rfl))
       (refine pure_ (i := 25) (v := ?_) (a' := ?_) (bsR 44 26) rfl rfl (by kernel_rfl) (fun _ _ _ h => h) (Or.inl ⟨by rfl, ?_⟩) ?_ ?_; rotate_left; (intro w'; go_simp; with_reducible rfl); rotate_left; (go_simp; rfl))
       (refine pure_ (i := 26) (v := ?_) (a' := ?_) (bsR 44 27) rfl rfl (by kernel_rfl) (fun _ _ _ h => h) (Or.inl ⟨by rfl, ?_⟩) ?_ ?_; rotate_left; (intro w'; go_simp; with_reducible rfl); rotate_left; (go_simp; rfl))
       (refine pure_ (i := 27) (v := ?_) (a' := ?_) (bsR 44 28) rfl rfl (by kernel_rfl) (fun _ _ _ h => h) (Or.inl ⟨by rfl, ?_⟩) ?_ ?_; rotate_left; (intro w'; go_simp; with_reducible rfl); rotate_left; (go_simp; rfl))
       (refine take_ (i := 28) (v := ?_) (a' := ?_) (bsR 44 29) rfl rfl (by kernel_rfl) (fun _ _ _ h => h) (Or.inl ⟨by rfl, ?_⟩) hHeld ?_ ?_; rotate_left; (rintro w' ⟨s0, s1, s2, s3, s4, s5, s6, s7, s8, s9⟩; go_simp; with_reducible rfl); rotate_left; (go_simp; rfl))
       (refine pure_ (i := 29) (v := ?_) (a' := ?_) (bsR 44 30) rfl rfl (by kernel_rfl) (fun _ _ _ h => h) (Or.inl ⟨by rfl, ?_⟩) ?_ ?_; rotate_left; (intro w'; go_simp; with_reducible rfl); rotate_left; (go_simp; rfl))
       (refine take_ (i := 30) (v := ?_) (a' := ?_) (bsR 44 31) rfl rfl (by kernel_rfl) (fun _ _ _ h => h) (Or.inl ⟨by rfl, ?_⟩) hHeld ?_ ?_; rotate_left; (rintro w' ⟨s0, s1, s2, s3, s4, s5, s6, s7, s8, s9⟩; go_simp; with_reducible rfl); rotate_left; (go_simp; rfl))
       (refine pure_ (i := 31) (v := ?_) (a' := ?_) (bsR 44 32) rfl rfl (by kernel_rfl) (fun _ _ _ h => h) (Or.inl ⟨by rfl, ?_⟩) ?_ ?_; rotate_left; (intro w'; go_simp; with_reducible rfl); rotate_left; (go_simp; rfl))
       (refine take_ (i := 32) (v := ?_) (a' := ?_) (bsR 44 33) rfl rfl (by kernel_rfl) (fun _ _ _ h => h) (Or.inl ⟨by rfl, ?_⟩) hHeld ?_ ?_; rotate_left; (rintro w' ⟨s0, s1, s2, s3, s4, s5, s6, s7, s8, s9⟩; go_simp; with_reducible rfl); rotate_left; (go_simp; rfl))
       (refine pure_ (i := 33) (v := ?_) (a' := ?_) (bsR 44 34) rfl rfl (by kernel_rfl) (fun _ _ _ h => h) (Or.inl ⟨by rfl, ?_⟩) ?_ ?_; rotate_left; (intro w'; go_simp; with_reducible rfl); rotate_left; (go_simp; rfl))
       (refine take_ (i := 34) (v := ?_) (a' := ?_) (bsR 44 35) rfl rfl (by kernel_rfl) (fun _ _ _ h => h) (Or.inl ⟨by rfl, ?_⟩) hHeld ?_ ?_; rotate_left; (rintro w' ⟨s0, s1, s2, s3, s4, s5, s6, s7, s8, s9⟩; go_simp; with_reducible rfl); rotate_left; (go_simp; rfl))
       refine one_ (i := 35) (N := (some 68)) (bsR 44 36) rfl rfl (by kernel_rfl) (by decide) (fun K hK => ?_)
       refine goes_ Try.func50 (by kernel_rfl) rfl #[.string y.f2, .string y.f3, .string y.f4, .slice B5 k5 g5] (by rfl) rfl rfl (by (try simp only [List.map_toArray, List.map_cons, List.map_nil]); first | done | rfl) ?_
       refine (HPB.out _ HDR.out).mono ?_
       rintro e w8 ⟨rfl, hb8⟩
       refine ⟨_, rfl, ?_⟩
       have HB8 : Aside0 (Below wc.heap.size wc w8) := ⟨HDR.out.trans hb8⟩
       clear hb8
       refine hK.out _ _ ⟨pw_cell_below HB8.out p0, pw_cell_below HB8.out p1, pw_cell_below HB8.out p2, pw_cell_below HB8.out v0, pw_cell_below HB8.out v1, pw_cell_below HB8.out v2, pw_cell_below HB8.out v3, pw_cell_below HB8.out v4, pw_cell_below HB8.out v5, pw_cell_below HB8.out v6⟩ (fun hHeld => ?_)
       clear hK K
       (refine norm_ (a' := ?_) ?_ ?_; rotate_left; (show Act.put _ (some 68) _ = _; (go_simp; rfl)))
       (refine pure_ (i := 36) (v := ?_) (a' := ?_) (bsR 44 37) rfl rfl (by kernel_rfl) (fun _ _ _ h => h) (Or.inl ⟨by rfl, ?_⟩) ?_ ?_; rotate_left; (intro w'; go_simp; with_reducible rfl); rotate_left; (go_simp; rfl))
       (refine pure_ (i := 37) (v := ?_) (a' := ?_) (bsR 44 38) rfl rfl (by kernel_rfl) (fun _ _ _ h => h) (Or.inl ⟨by rfl, ?_⟩) ?_ ?_; rotate_left; (intro w'; go_simp; with_reducible rfl); rotate_left; (go_simp; rfl))
       (refine pure_ (i := 38) (v := ?_) (a' := ?_) (bsR 44 39) rfl rfl (by kernel_rfl) (fun _ _ _ h => h) (Or.inl ⟨by rfl, ?_⟩) ?_ ?_; rotate_left; (intro w'; go_simp; with_reducible rfl); rotate_left; (go_simp; rfl))
       (refine pure_ (i := 39) (v := undef) (a' := ?_) (bsR 44 40) rfl rfl (by kernel_rfl) (fun _ _ _ h => h) (Or.inr ⟨by rfl, rfl⟩) ?_ ?_; rotate_left; (go_simp; rfl))
       (refine pure_ (i := 40) (v := undef) (a' := ?_) (bsR 44 41) rfl rfl (by kernel_rfl) (fun _ _ _ h => h) (Or.inr ⟨by rfl, rfl⟩) ?_ ?_; rotate_left; (go_simp; rfl))
       (refine pure_ (i := 41) (v := undef) (a' := ?_) (bsR 44 42) rfl rfl (by kernel_rfl) (fun _ _ _ h => h) (Or.inr ⟨by rfl, rfl⟩) ?_ ?_; rotate_left; (go_simp; rfl))
       (refine pure_ (i := 42) (v := undef) (a' := ?_) (bsR 44 43) rfl rfl (by kernel_rfl) (fun _ _ _ h => h) (Or.inr ⟨by rfl, rfl⟩) ?_ ?_; rotate_left; (go_simp; rfl))
       (refine pure_ (i := 43) (v := ?_) (a' := ?_) (bsR 44 44) rfl rfl (by kernel_rfl) (fun _ _ _ h => h) (Or.inl ⟨by rfl, ?_⟩) ?_ ?_; rotate_left; (intro w'; go_simp; with_reducible rfl); rotate_left; (go_simp; rfl))
       refine done_ (by kernel_rfl) ?_
       go_wp2_with fail
       go_meet
       exact ⟨by rw [hbq], HB8⟩
      | true =>
       have hbq : bq = !kq := by rw [← hbd, if_neg (by decide)]
       clear hbd
       refine start_ (n := 44) (S := fun w' => w'.cell? ⟨N, 0, none⟩ = some (.slice (some bd) m d) ∧ w'.cell? ⟨N, 1, none⟩ = some (.int .i64 r) ∧ w'.cell? ⟨N, 2, none⟩ = some (.int .i64 nx) ∧ w'.cell? ⟨b4, 0, none⟩ = some (.int .i64 y.f0) ∧ w'.cell? ⟨b4, 1, none⟩ = some (.int .i64 y.f1) ∧ w'.cell? ⟨b4, 2, none⟩ = some (.string y.f2) ∧ w'.cell? ⟨b4, 3, none⟩ = some (.string y.f3) ∧ w'.cell? ⟨b4, 4, none⟩ = some (.string y.f4) ∧ w'.cell? ⟨b4, 5, none⟩ = some (.slice B5 k5 g5) ∧ w'.cell? ⟨b4, 6, none⟩ = some (.slice B6 k6 g6)) (ds := []) (bsR 44 0) (by kernel_rfl) rfl (by kernel_rfl) ⟨p0, p1, p2, v0, v1, v2, v3, v4, v5, v6⟩ (fun hHeld => ?_)
       (refine pure_ (i := 0) (v := ?_) (a' := ?_) (bsR 44 1) rfl rfl (by kernel_rfl) (fun _ _ _ h => h) (Or.inl ⟨by rfl, ?_⟩) ?_ ?_; rotate_left; (intro w'; go_simp; with_reducible rfl); rotate_left; (go_simp; rfl))
       (refine take_ (i := 1) (v := ?_) (a' := ?_) (bsR 44 2) rfl rfl (by kernel_rfl) (fun _ _ _ h => h) (Or.inl ⟨by rfl, ?_⟩) hHeld ?_ ?_; rotate_left; (rintro w' ⟨s0, s1, s2, s3, s4, s5, s6, s7, s8, s9⟩; go_simp; with_reducible rfl); rotate_left; (go_simp; rfl))
       (refine pure_ (i := 2) (v := ?_) (a' := ?_) (bsR 44 3) rfl rfl (by kernel_rfl) (fun _ _ _ h => h) (Or.inl ⟨by rfl, ?_⟩) ?_ ?_; rotate_left; (intro w'; go_simp; with_reducible rfl); rotate_left; (go_simp; rfl))
       (refine pure_ (i := 3) (v := ?_) (a' := ?_) (bsR 44 4) rfl rfl (by kernel_rfl) (fun _ _ _ h => h) (Or.inl ⟨by rfl, ?_⟩) ?_ ?_; rotate_left; (intro w'; go_simp; with_reducible rfl); rotate_left; (go_simp; rfl))
       (refine pure_ (i := 4) (v := ?_) (a' := ?_) (bsR 44 5) rfl rfl (by kernel_rfl) (fun _ _ _ h => h) (Or.inl ⟨by rfl, ?_⟩) ?_ ?_; rotate_left; (intro w'; go_simp; with_reducible rfl); rotate_left; (go_simp; rfl))
       (refine take_ (i := 5) (v := ?_) (a' := ?_) (bsR 44 6) rfl rfl (by kernel_rfl) (fun _ _ _ h => h) (Or.inl ⟨by rfl, ?_⟩) hHeld ?_ ?_; rotate_left; (rintro w' ⟨s0, s1, s2, s3, s4, s5, s6, s7, s8, s9⟩; go_simp; with_reducible rfl); rotate_left; (go_simp; rfl))
       (refine pure_ (i := 6) (v := ?_) (a' := ?_) (bsR 44 7) rfl rfl (by kernel_rfl) (fun _ _ _ h => h) (Or.inl ⟨by rfl, ?_⟩) ?_ ?_; rotate_left; (intro w'; go_simp; with_reducible rfl); rotate_left; (go_simp; rfl))
       (refine take_ (i := 7) (v := ?_) (a' := ?_) (bsR 44 8) rfl rfl (by kernel_rfl) (fun _ _ _ h => h) (Or.inl ⟨by rfl, ?_⟩) hHeld ?_ ?_; rotate_left; (rintro w' ⟨s0, s1, s2, s3, s4, s5, s6, s7, s8, s9⟩; go_simp; with_reducible rfl); rotate_left; (go_simp; rfl))
       (refine pure_ (i := 8) (v := ?_) (a' := ?_) (bsR 44 9) rfl rfl (by kernel_rfl) (fun _ _ _ h => h) (Or.inl ⟨by rfl, ?_⟩) ?_ ?_; rotate_left; (intro w'; go_simp; with_reducible rfl); rotate_left; (go_simp; rfl))
       (refine pure_ (i := 9) (v := ?_) (a' := ?_) (bsR 44 10) rfl rfl (by kernel_rfl) (fun _ _ _ h => h) (Or.inl ⟨by rfl, ?_⟩) ?_ ?_; rotate_left; (intro w'; go_simp; with_reducible rfl); rotate_left; (go_simp; rfl))
       (refine pure_ (i := 10) (v := ?_) (a' := ?_) (bsR 44 11) rfl rfl (by kernel_rfl) (fun _ _ _ h => h) (Or.inl ⟨by rfl, ?_⟩) ?_ ?_; rotate_left; (intro w'; go_simp; with_reducible rfl); rotate_left; (go_simp; rfl))
       (refine pure_ (i := 11) (v := ?_) (a' := ?_) (bsR 44 12) rfl rfl (by kernel_rfl) (fun _ _ _ h => h) (Or.inl ⟨by rfl, ?_⟩) ?_ ?_; rotate_left; (intro w'; go_simp; with_reducible rfl); rotate_left; (go_simp; rfl))
       (refine pure_ (i := 12) (v := ?_) (a' := ?_) (bsR 44 13) rfl rfl (by kernel_rfl) (fun _ _ _ h => h) (Or.inl ⟨by rfl, ?_⟩) ?_ ?_; rotate_left; (intro w'; go_simp; with_reducible rfl); rotate_left; (go_simp; rfl))
       (refine pure_ (i := 13) (v := ?_) (a' := ?_) (bsR 44 14) rfl rfl (by kernel_rfl) (fun _ _ _ h => h) (Or.inl ⟨by rfl, ?_⟩) ?_ ?_; rotate_left; (intro w'; go_simp; with_reducible rfl); rotate_left; (go_simp; rfl))
       (refine pure_ (i := 14) (v := undef) (a' := ?_) (bsR 44 15) rfl rfl (by kernel_rfl) (fun _ _ _ h => h) (Or.inr ⟨by rfl, rfl⟩) ?_ ?_; rotate_left; (go_simp; rfl))
       (refine pure_ (i := 15) (v := undef) (a' := ?_) (bsR 44 16) rfl rfl (by kernel_rfl) (fun _ _ _ h => h) (Or.inr ⟨by rfl, rfl⟩) ?_ ?_; rotate_left; (go_simp; rfl))
       (refine pure_ (i := 16) (v := undef) (a' := ?_) (bsR 44 17) rfl rfl (by kernel_rfl) (fun _ _ _ h => h) (Or.inr ⟨by rfl, rfl⟩) ?_ ?_; rotate_left; (go_simp; rfl))
       (refine pure_ (i := 17) (v := undef) (a' := ?_) (bsR 44 18) rfl rfl (by kernel_rfl) (fun _ _ _ h => h) (Or.inr ⟨by rfl, rfl⟩) ?_ ?_; rotate_left; (go_simp; rfl))
       (refine pure_ (i := 18) (v := undef) (a' := ?_) (bsR 44 19) rfl rfl (by kernel_rfl) (fun _ _ _ h => h) (Or.inr ⟨by rfl, rfl⟩) ?_ ?_; rotate_left; (go_simp; rfl))
       (refine pure_ (i := 19) (v := undef) (a' := ?_) (bsR 44 20) rfl rfl (by kernel_rfl) (fun _ _ _ h => h) (Or.inr ⟨by rfl, rfl⟩) ?_ ?_; rotate_left; (go_simp; rfl))
       (refine pure_ (i := 20) (v := undef) (a' := ?_) (bsR 44 21) rfl rfl (by kernel_rfl) (fun _ _ _ h => h) (Or.inr ⟨by rfl, rfl⟩) ?_ ?_; rotate_left; (go_simp; rfl))
       (refine pure_ (i := 21) (v := undef) (a' := ?_) (bsR 44 22) rfl rfl (by kernel_rfl) (fun _ _ _ h => h) (Or.inr ⟨by rfl, rfl⟩) ?_ ?_; rotate_left; (go_simp; rfl))
       (refine pure_ (i := 22) (v := undef) (a' := ?_) (bsR 44 23) rfl rfl (by kernel_rfl) (fun _ _ _ h => h) (Or.inr ⟨by rfl, rfl⟩) ?_ ?_; rotate_left; (go_simp; rfl))
       (refine pure_ (i := 23) (v := undef) (a' := ?_) (bsR 44 24) rfl rfl (by kernel_rfl) (fun _ _ _ h => h) (Or.inr ⟨by rfl, rfl⟩) ?_ ?_; rotate_left; (go_simp; rfl))
       (refine pure_ (i := 24) (v := ?_) (a' := ?_) (bsR 44 25) rfl rfl (by kernel_rfl) (fun _ _ _ h => h) (Or.inl ⟨by rfl, ?_⟩) ?_ ?_; rotate_left; (intro w'; go_simp; with_reducible rfl); rotate_left; (go_simp; rfl))
       (refine pure_ (i := 25) (v := ?_) (a' := ?_) (bsR 44 26) rfl rfl (by kernel_rfl) (fun _ _ _ h => h) (Or.inl ⟨by rfl, ?_⟩) ?_ ?_; rotate_left; (intro w'; go_simp; with_reducible rfl); rotate_left; (go_simp; rfl))
       (refine pure_ (i := 26) (v := ?_) (a' := ?_) (bsR 44 27) rfl rfl (by kernel_rfl) (fun _ _ _ h => h) (Or.inl ⟨by rfl, ?_⟩) ?_ ?_; rotate_left; (intro w'; go_simp; with_reducible rfl); rotate_left; (go_simp; rfl))
       (refine pure_ (i := 27) (v := ?_) (a' := ?_) (bsR 44 28) rfl rfl (by kernel_rfl) (fun _ _ _ h => h) (Or.inl ⟨by rfl, ?_⟩) ?_ ?_; rotate_left; (intro w'; go_simp; with_reducible rfl); rotate_left; (go_simp; rfl))
       (refine take_ (i := 28) (v := ?_) (a' := ?_) (bsR 44 29) rfl rfl (by kernel_rfl) (fun _ _ _ h => h) (Or.inl ⟨by rfl, ?_⟩) hHeld ?_ ?_; rotate_left; (rintro w' ⟨s0, s1, s2, s3, s4, s5, s6, s7, s8, s9⟩; go_simp; with_reducible rfl); rotate_left; (go_simp; rfl))
       (refine pure_ (i := 29) (v := ?_) (a' := ?_) (bsR 44 30) rfl rfl (by kernel_rfl) (fun _ _ _ h => h) (Or.inl ⟨by rfl, ?_⟩) ?_ ?_; rotate_left; (intro w'; go_simp; with_reducible rfl); rotate_left; (go_simp; rfl))
       (refine take_ (i := 30) (v := ?_) (a' := ?_) (bsR 44 31) rfl rfl (by kernel_rfl) (fun _ _ _ h => h) (Or.inl ⟨by rfl, ?_⟩) hHeld ?_ ?_; rotate_left; (rintro w' ⟨s0, s1, s2, s3, s4, s5, s6, s7, s8, s9⟩; go_simp; with_reducible rfl); rotate_left; (go_simp; rfl))
       (refine pure_ (i := 31) (v := ?_) (a' := ?_) (bsR 44 32) rfl rfl (by kernel_rfl) (fun _ _ _ h => h) (Or.inl ⟨by rfl, ?_⟩) ?_ ?_; rotate_left; (intro w'; go_simp; with_reducible rfl); rotate_left; (go_simp; rfl))
       (refine take_ (i := 32) (v := ?_) (a' := ?_) (bsR 44 33) rfl rfl (by kernel_rfl) (fun _ _ _ h => h) (Or.inl ⟨by rfl, ?_⟩) hHeld ?_ ?_; rotate_left; (rintro w' ⟨s0, s1, s2, s3, s4, s5, s6, s7, s8, s9⟩; go_simp; with_reducible rfl); rotate_left; (go_simp; rfl))
       (refine pure_ (i := 33) (v := ?_) (a' := ?_) (bsR 44 34) rfl rfl (by kernel_rfl) (fun _ _ _ h => h) (Or.inl ⟨by rfl, ?_⟩) ?_ ?_; rotate_left; (intro w'; go_simp; with_reducible rfl); rotate_left; (go_simp; rfl))
       (refine take_ (i := 34) (v := ?_) (a' := ?_) (bsR 44 35) rfl rfl (by kernel_rfl) (fun _ _ _ h => h) (Or.inl ⟨by rfl, ?_⟩) hHeld ?_ ?_; rotate_left; (rintro w' ⟨s0, s1, s2, s3, s4, s5, s6, s7, s8, s9⟩; go_simp; with_reducible rfl); rotate_left; (go_simp; rfl))
       refine one_ (i := 35) (N := (some 68)) (bsR 44 36) rfl rfl (by kernel_rfl) (by decide) (fun K hK => ?_)
       refine goes_ Try.func50 (by kernel_rfl) rfl #[.string y.f2, .string y.f3, .string y.f4, .slice B5 k5 g5] (by rfl) rfl rfl (by (try simp only [List.map_toArray, List.map_cons, List.map_nil]); first | done | rfl) ?_
       refine (HPB.out _ HDR.out).mono ?_
       rintro e w8 ⟨rfl, hb8⟩
       refine ⟨_, rfl, ?_⟩
       have HB8 : Aside0 (Below wc.heap.size wc w8) := ⟨HDR.out.trans hb8⟩
       clear hb8
       refine hK.out _ _ ⟨pw_cell_below HB8.out p0, pw_cell_below HB8.out p1, pw_cell_below HB8.out p2, pw_cell_below HB8.out v0, pw_cell_below HB8.out v1, pw_cell_below HB8.out v2, pw_cell_below HB8.out v3, pw_cell_below HB8.out v4, pw_cell_below HB8.out v5, pw_cell_below HB8.out v6⟩ (fun hHeld => ?_)
       clear hK K
       (refine norm_ (a' := ?_) ?_ ?_; rotate_left; (show Act.put _ (some 68) _ = _; (go_simp; rfl)))
       (refine pure_ (i := 36) (v := ?_) (a' := ?_) (bsR 44 37) rfl rfl (by kernel_rfl) (fun _ _ _ h => h) (Or.inl ⟨by rfl, ?_⟩) ?_ ?_; rotate_left; (intro w'; go_simp; with_reducible rfl); rotate_left; (go_simp; rfl))
       (refine pure_ (i := 37) (v := ?_) (a' := ?_) (bsR 44 38) rfl rfl (by kernel_rfl) (fun _ _ _ h => h) (Or.inl ⟨by rfl, ?_⟩) ?_ ?_; rotate_left; (intro w'; go_simp; with_reducible rfl); rotate_left; (go_simp; rfl))
       (refine pure_ (i := 38) (v := ?_) (a' := ?_) (bsR 44 39) rfl rfl (by kernel_rfl) (fun _ _ _ h => h) (Or.inl ⟨by rfl, ?_⟩) ?_ ?_; rotate_left; (intro w'; go_simp; with_reducible rfl); rotate_left; (go_simp; rfl))
       (refine take_ (i := 39) (v := ?_) (a' := ?_) (bsR 44 40) rfl rfl (by kernel_rfl) (fun _ _ _ h => h) (Or.inl ⟨by rfl, ?_⟩) hHeld ?_ ?_; rotate_left; (rintro w' ⟨s0, s1, s2, s3, s4, s5, s6, s7, s8, s9⟩; go_simp; with_reducible rfl); rotate_left; (go_simp; rfl))
       (refine take_ (i := 40) (v := ?_) (a' := ?_) (bsR 44 41) rfl rfl (by kernel_rfl) (fun _ _ _ h => h) (Or.inl ⟨by rfl, ?_⟩) hHeld ?_ ?_; rotate_left; (rintro w' ⟨s0, s1, s2, s3, s4, s5, s6, s7, s8, s9⟩; go_simp; with_reducible rfl); rotate_left; (go_simp; rfl))
       refine one_ (i := 41) (N := (some 74)) (bsR 44 42) rfl rfl (by kernel_rfl) (by decide) (fun K hK => ?_)
       refine goes_ Try.func51 (by kernel_rfl) rfl #[.agg #[.slice (some bd) m d, .int .i64 r, .int .i64 nx], .agg #[.int .i64 y.f0, .int .i64 y.f1, .string y.f2, .string y.f3, .string y.f4, .slice B5 k5 g5, .slice B6 k6 g6]] (by rfl) rfl rfl (by (try simp only [List.map_toArray, List.map_cons, List.map_nil]); first | done | rfl) ?_
       refine (HKB.out _ HB8.out).mono ?_
       rintro e w9 ⟨rfl, hb9⟩
       refine ⟨_, rfl, ?_⟩
       have HB9 : Aside0 (Below wc.heap.size wc w9) := ⟨HB8.out.trans (hb9.mono HB8.out.size)⟩
       clear hb9
       refine hK.out _ _ ⟨pw_cell_below HB9.out p0, pw_cell_below HB9.out p1, pw_cell_below HB9.out p2, pw_cell_below HB9.out v0, pw_cell_below HB9.out v1, pw_cell_below HB9.out v2, pw_cell_below HB9.out v3, pw_cell_below HB9.out v4, pw_cell_below HB9.out v5, pw_cell_below HB9.out v6⟩ (fun hHeld => ?_)
       clear hK K
       (refine norm_ (a' := ?_) ?_ ?_; rotate_left; (show Act.put _ (some 74) _ = _; (go_simp; rfl)))
       (refine pure_ (i := 42) (v := ?_) (a' := ?_) (bsR 44 43) rfl rfl (by kernel_rfl) (fun _ _ _ h => h) (Or.inl ⟨by rfl, ?_⟩) ?_ ?_; rotate_left; (intro w'; go_simp; with_reducible rfl); rotate_left; (go_simp; rfl))
       (refine pure_ (i := 43) (v := ?_) (a' := ?_) (bsR 44 44) rfl rfl (by kernel_rfl) (fun _ _ _ h => h) (Or.inl ⟨by rfl, ?_⟩) ?_ ?_; rotate_left; (intro w'; go_simp; with_reducible rfl); rotate_left; (go_simp; rfl))
       refine done_ (by kernel_rfl) ?_
       go_wp2_with fail
       go_meet
       exact ⟨by rw [hbq], HB9⟩
    case rest =>
     obtain ⟨rfl, HB9⟩ := hcut
     have HBD : Aside0 (Below N w wc) := ⟨HBC.out.trans (HB9.out.mono HNC.out)⟩
     have HND : Aside0 (N ≤ wc.heap.size) := ⟨Nat.le_trans HNC.out HB9.out.size⟩
     have HXD := Aside0.mk ((HB9.out.block _ (blk_lt HXC.out)).trans HXC.out)
     have HYD : Aside0 (RBox wc b4 y B5 g5 k5 B6 g6 k6) := ⟨(HB9.out.block _ (blk_lt HYC.out)).trans HYC.out⟩
     have HLB2 : Aside0 (∀ W, Below wc.heap.size wc W → Calls Try.prog 53 #[.agg #[.slice (some bd) m d, .int .i64 r, .int .i64 nx], .agg #[.int .i64 y.f0, .int .i64 y.f1, .string y.f2, .string y.f3, .string y.f4, .slice B5 k5 g5, .slice B6 k6 g6]] W fun e w' => e = .returned (.bool (loopsR ms y)) ∧ Below W.heap.size W w') := ⟨fun W hW => HLB.out W (HB9.out.trans (hW.mono HB9.out.size))⟩
     clear p0 p1 p2 v0 v1 v2 v3 v4 v5 v6
     cases bq with
     | true =>
      have HV : Aside0 (R = 9) := ⟨by rw [HZ2.out]; simp⟩
      go_wp2_with fail
      (try go_ret)
      exact ⟨by rw [HV.out]; rfl, by first | exact HBD.out | (rw [HNN.out]; exact HBD.out)⟩
     | false =>
      have HZ3 : Aside0 (R = if (if homeR ms y = true then checkRL ms nx (j + 1) (ms.drop (j + 1)) else false) = true then (if rootR ms r = true then 0 else 9) else 9) := ⟨by rw [HZ2.out]; simp⟩
      have p0 : wc.cell? ⟨N, 0, none⟩ = some (.slice (some bd) m d) := blk_cell HXD.out 0
      have p1 : wc.cell? ⟨N, 1, none⟩ = some (.int .i64 r) := blk_cell HXD.out 1
      have p2 : wc.cell? ⟨N, 2, none⟩ = some (.int .i64 nx) := blk_cell HXD.out 2
      have v0 : wc.cell? ⟨b4, 0, none⟩ = some (.int .i64 y.f0) := blk_cell HYD.out 0
      have v1 : wc.cell? ⟨b4, 1, none⟩ = some (.int .i64 y.f1) := blk_cell HYD.out 1
      have v2 : wc.cell? ⟨b4, 2, none⟩ = some (.string y.f2) := blk_cell HYD.out 2
      have v3 : wc.cell? ⟨b4, 3, none⟩ = some (.string y.f3) := blk_cell HYD.out 3
      have v4 : wc.cell? ⟨b4, 4, none⟩ = some (.string y.f4) := blk_cell HYD.out 4
      have v5 : wc.cell? ⟨b4, 5, none⟩ = some (.slice B5 k5 g5) := blk_cell HYD.out 5
      have v6 : wc.cell? ⟨b4, 6, none⟩ = some (.slice B6 k6 g6) := blk_cell HYD.out 6
      by_cases h1 : y.f1 = 0
      ·
       have HV : Aside0 (R = if checkRL ms nx (j + 1) (ms.drop (j + 1)) = true then (if rootR ms r = true then 0 else 9) else 9) := ⟨by rw [HZ3.out, homeR, if_pos h1, if_pos rfl]⟩
       have f1 : (y.f1 != 0) = false := bne_eq_false_iff_eq.2 h1
       clear h1
       go_wp2_with fail
       go_round
       case rel => exact ⟨j + 1, by omega, by go_num, HV, HBD, HXD⟩
       case measure => simp [intOf]; omega
      ·
       have f1 : (y.f1 != 0) = true := bne_iff_ne.2 h1
       have HP0 := Aside0.mk (HPL.out y.f1)
       have hpc := placeR_cases y.f1 ms
       obtain ⟨hq, hhq0⟩ : ∃ b, homeR ms y = b := ⟨_, rfl⟩
       rw [hhq0] at HZ3
       unfold homeR at hhq0
       rw [if_neg h1] at hhq0
       obtain ⟨P, hP⟩ : ∃ P, placeR y.f1 ms 0 = P := ⟨_, rfl⟩
       rw [hP] at HP0 hpc hhq0
       have HPC := Aside0.mk hpc
       have HHQ := Aside0.mk hhq0
       clear h1 hP hpc hhq0
       go_wp2_with fail
       refine (HP0.out _ (HNN.out ▸ HBD.out)).mono ?_
       rintro e w10 ⟨rfl, hb10⟩
       have HB10 := Aside0.mk hb10
       have HBE : Aside0 (Below N w w10) := ⟨HBD.out.trans (hb10.mono HND.out)⟩
       have HNE : Aside0 (N ≤ w10.heap.size) := ⟨Nat.le_trans HND.out hb10.size⟩
       have HXE := Aside0.mk ((hb10.block _ (blk_lt HXD.out)).trans HXD.out)
       have HYE : Aside0 (RBox w10 b4 y B5 g5 k5 B6 g6 k6) := ⟨(hb10.block _ (blk_lt HYD.out)).trans HYD.out⟩
       have HLB3 : Aside0 (∀ W, Below w10.heap.size w10 W → Calls Try.prog 53 #[.agg #[.slice (some bd) m d, .int .i64 r, .int .i64 nx], .agg #[.int .i64 y.f0, .int .i64 y.f1, .string y.f2, .string y.f3, .string y.f4, .slice B5 k5 g5, .slice B6 k6 g6]] W fun e w' => e = .returned (.bool (loopsR ms y)) ∧ Below W.heap.size W w') := ⟨fun W hW => HLB2.out W (HB10.out.trans (hW.mono HB10.out.size))⟩
       have HDR2 : Aside0 (Below w10.heap.size w10 w10.drew) := ⟨below_drew1 (Below.refl _ _)⟩
       clear hb10 p0 p1 p2 v0 v1 v2 v3 v4 v5 v6
       have p0 : w10.cell? ⟨N, 0, none⟩ = some (.slice (some bd) m d) := blk_cell HXE.out 0
       have p1 : w10.cell? ⟨N, 1, none⟩ = some (.int .i64 r) := blk_cell HXE.out 1
       have p2 : w10.cell? ⟨N, 2, none⟩ = some (.int .i64 nx) := blk_cell HXE.out 2
       have v0 : w10.cell? ⟨b4, 0, none⟩ = some (.int .i64 y.f0) := blk_cell HYE.out 0
       have v1 : w10.cell? ⟨b4, 1, none⟩ = some (.int .i64 y.f1) := blk_cell HYE.out 1
       have v2 : w10.cell? ⟨b4, 2, none⟩ = some (.string y.f2) := blk_cell HYE.out 2
       have v3 : w10.cell? ⟨b4, 3, none⟩ = some (.string y.f3) := blk_cell HYE.out 3
       have v4 : w10.cell? ⟨b4, 4, none⟩ = some (.string y.f4) := blk_cell HYE.out 4
       have v5 : w10.cell? ⟨b4, 5, none⟩ = some (.slice B5 k5 g5) := blk_cell HYE.out 5
       have v6 : w10.cell? ⟨b4, 6, none⟩ = some (.slice B6 k6 g6) := blk_cell HYE.out 6
       go_wp2_with fail
       go_cut [102] (fun s102 wx => s102 = .bool (!hq) ∧ Aside0 (Below w10.heap.size w10 wx))
       case first =>
        rcases HPC.out with ⟨hp, -⟩ | ⟨t, ht, hp, -, -⟩
        ·
         subst hp
         have hhq : hq = false := by rw [← HHQ.out, if_pos (by decide)]
         refine start_ (n := 19) (S := fun w' => w'.cell? ⟨N, 0, none⟩ = some (.slice (some bd) m d) ∧ w'.cell? ⟨N, 1, none⟩ = some (.int .i64 r) ∧ w'.cell? ⟨N, 2, none⟩ = some (.int .i64 nx) ∧ w'.cell? ⟨b4, 0, none⟩ = some (.int .i64 y.f0) ∧ w'.cell? ⟨b4, 1, none⟩ = some (.int .i64 y.f1) ∧ w'.cell? ⟨b4, 2, none⟩ = some (.string y.f2) ∧ w'.cell? ⟨b4, 3, none⟩ = some (.string y.f3) ∧ w'.cell? ⟨b4, 4, none⟩ = some (.string y.f4) ∧ w'.cell? ⟨b4, 5, none⟩ = some (.slice B5 k5 g5) ∧ w'.cell? ⟨b4, 6, none⟩ = some (.slice B6 k6 g6)) (ds := []) (bsR 19 0) (by kernel_rfl) rfl (by kernel_rfl) ⟨p0, p1, p2, v0, v1, v2, v3, v4, v5, v6⟩ (fun hHeld => ?_)
         (refine pure_ (i := 0) (v := ?_) (a' := ?_) (bsR 19 1) rfl rfl (by kernel_rfl) (fun _ _ _ h => h) (Or.inl ⟨by rfl, ?_⟩) ?_ ?_; rotate_left; (intro w'; go_simp; with_reducible rfl); rotate_left; (go_simp; rfl))
         (refine pure_ (i := 1) (v := ?_) (a' := ?_) (bsR 19 2) rfl rfl (by kernel_rfl) (fun _ _ _ h => h) (Or.inl ⟨by rfl, ?_⟩) ?_ ?_; rotate_left; (intro w'; go_simp; with_reducible rfl); rotate_left; (go_simp; rfl))
         (refine pure_ (i := 2) (v := ?_) (a' := ?_) (bsR 19 3) rfl rfl (by kernel_rfl) (fun _ _ _ h => h) (Or.inl ⟨by rfl, ?_⟩) ?_ ?_; rotate_left; (intro w'; go_simp; with_reducible rfl); rotate_left; (go_simp; rfl))
         (refine pure_ (i := 3) (v := undef) (a' := ?_) (bsR 19 4) rfl rfl (by kernel_rfl) (fun _ _ _ h => h) (Or.inr ⟨by rfl, rfl⟩) ?_ ?_; rotate_left; (go_simp; rfl))
         (refine pure_ (i := 4) (v := undef) (a' := ?_) (bsR 19 5) rfl rfl (by kernel_rfl) (fun _ _ _ h => h) (Or.inr ⟨by rfl, rfl⟩) ?_ ?_; rotate_left; (go_simp; rfl))
         (refine pure_ (i := 5) (v := undef) (a' := ?_) (bsR 19 6) rfl rfl (by kernel_rfl) (fun _ _ _ h => h) (Or.inr ⟨by rfl, rfl⟩) ?_ ?_; rotate_left; (go_simp; rfl))
         (refine pure_ (i := 6) (v := undef) (a' := ?_) (bsR 19 7) rfl rfl (by kernel_rfl) (fun _ _ _ h => h) (Or.inr ⟨by rfl, rfl⟩) ?_ ?_; rotate_left; (go_simp; rfl))
         (refine pure_ (i := 7) (v := undef) (a' := ?_) (bsR 19 8) rfl rfl (by kernel_rfl) (fun _ _ _ h => h) (Or.inr ⟨by rfl, rfl⟩) ?_ ?_; rotate_left; (go_simp; rfl))
         (refine pure_ (i := 8) (v := undef) (a' := ?_) (bsR 19 9) rfl rfl (by kernel_rfl) (fun _ _ _ h => h) (Or.inr ⟨by rfl, rfl⟩) ?_ ?_; rotate_left; (go_simp; rfl))
         (refine pure_ (i := 9) (v := undef) (a' := ?_) (bsR 19 10) rfl rfl (by kernel_rfl) (fun _ _ _ h => h) (Or.inr ⟨by rfl, rfl⟩) ?_ ?_; rotate_left; (go_simp; rfl))
         (refine pure_ (i := 10) (v := undef) (a' := ?_) (bsR 19 11) rfl rfl (by kernel_rfl) (fun _ _ _ h => h) (Or.inr ⟨by rfl, rfl⟩) ?_ ?_; rotate_left; (go_simp; rfl))
         (refine pure_ (i := 11) (v := undef) (a' := ?_) (bsR 19 12) rfl rfl (by kernel_rfl) (fun _ _ _ h => h) (Or.inr ⟨by rfl, rfl⟩) ?_ ?_; rotate_left; (go_simp; rfl))
         (refine pure_ (i := 12) (v := undef) (a' := ?_) (bsR 19 13) rfl rfl (by kernel_rfl) (fun _ _ _ h => h) (Or.inr ⟨by rfl, rfl⟩) ?_ ?_; rotate_left; (go_simp; rfl))
         (refine pure_ (i := 13) (v := ?_) (a' := ?_) (bsR 19 14) rfl rfl (by kernel_rfl) (fun _ _ _ h => h) (Or.inl ⟨by rfl, ?_⟩) ?_ ?_; rotate_left; (intro w'; go_simp; with_reducible rfl); rotate_left; (go_simp; rfl))
         (refine pure_ (i := 14) (v := ?_) (a' := ?_) (bsR 19 15) rfl rfl (by kernel_rfl) (fun _ _ _ h => h) (Or.inl ⟨by rfl, ?_⟩) ?_ ?_; rotate_left; (intro w'; go_simp; with_reducible rfl); rotate_left; (go_simp; rfl))
         (refine pure_ (i := 15) (v := undef) (a' := ?_) (bsR 19 16) rfl rfl (by kernel_rfl) (fun _ _ _ h => h) (Or.inr ⟨by rfl, rfl⟩) ?_ ?_; rotate_left; (go_simp; rfl))
         (refine pure_ (i := 16) (v := undef) (a' := ?_) (bsR 19 17) rfl rfl (by kernel_rfl) (fun _ _ _ h => h) (Or.inr ⟨by rfl, rfl⟩) ?_ ?_; rotate_left; (go_simp; rfl))
         (refine pure_ (i := 17) (v := undef) (a' := ?_) (bsR 19 18) rfl rfl (by kernel_rfl) (fun _ _ _ h => h) (Or.inr ⟨by rfl, rfl⟩) ?_ ?_; rotate_left; (go_simp; rfl))
         (refine pure_ (i := 18) (v := ?_) (a' := ?_) (bsR 19 19) rfl rfl (by kernel_rfl) (fun _ _ _ h => h) (Or.inl ⟨by rfl, ?_⟩) ?_ ?_; rotate_left; (intro w'; go_simp; with_reducible rfl); rotate_left; (go_simp; rfl))
         refine done_ (by kernel_rfl) ?_
         go_wp2_with fail
         go_meet
         exact ⟨by rw [hhq]; rfl, HDR2⟩
        ·
         subst hp
         have htm : (t : Int) < (m : Int) := by have := HM.out; omega
         obtain ⟨bd2, C5', h5', C6, h6, ebd, -, -, -, -, -, -, kc, -, -, hcl, hCK⟩ := at_T64 (Kd.C_below HD.out (HNN.out ▸ HBE.out)) (t : Int) (by omega) htm
         obtain rfl : bd = bd2 := Option.some.inj ebd
         rw [Int.toNat_natCast] at kc
         have hhq1 := HHQ.out
         rw [if_neg (by omega)] at hhq1
         have HIN : Aside0 (∀ W, Below w10.heap.size w10 W → Calls Try.prog 52 #[.slice C6 (rd_T64 ms (t : Int)).f6.length h6, .int .i64 y.f0] W fun e w' => e = .returned (.int .i64 (inR y.f0 (rd_T64 ms (t : Int)).f6 0)) ∧ Drawn0 W w') := ⟨fun W hW => in_call C6 h6 _ _ y.f0 W (Kd.C_below hCK hW) rfl hcl⟩
         obtain ⟨kl, hkl⟩ : ∃ z, (rd_T64 ms (t : Int)).f6.length = z := ⟨_, rfl⟩
         obtain ⟨I, hI⟩ : ∃ z, inR y.f0 (rd_T64 ms (t : Int)).f6 0 = z := ⟨_, rfl⟩
         obtain ⟨lq, hlq⟩ : ∃ b, loopsR ms y = b := ⟨_, rfl⟩
         rw [hkl] at kc HIN
         rw [hI] at HIN hhq1
         rw [hlq] at HLB3 hhq1
         have dP : decide ((t : Int) < 0) = false := decide_eq_false (by omega)
         clear ebd hcl hCK hkl hI hlq
         by_cases hI0 : I < 0
         ·
          have hhq : hq = false := by rw [← hhq1, if_pos hI0]
          have dI : decide (I < 0) = true := decide_eq_true hI0
          clear hI0 hhq1
          refine start_ (n := 19) (S := fun w' => w'.cell? ⟨N, 0, none⟩ = some (.slice (some bd) m d) ∧ w'.cell? ⟨N, 1, none⟩ = some (.int .i64 r) ∧ w'.cell? ⟨N, 2, none⟩ = some (.int .i64 nx) ∧ w'.cell? ⟨b4, 0, none⟩ = some (.int .i64 y.f0) ∧ w'.cell? ⟨b4, 1, none⟩ = some (.int .i64 y.f1) ∧ w'.cell? ⟨b4, 2, none⟩ = some (.string y.f2) ∧ w'.cell? ⟨b4, 3, none⟩ = some (.string y.f3) ∧ w'.cell? ⟨b4, 4, none⟩ = some (.string y.f4) ∧ w'.cell? ⟨b4, 5, none⟩ = some (.slice B5 k5 g5) ∧ w'.cell? ⟨b4, 6, none⟩ = some (.slice B6 k6 g6) ∧ w'.cell? ⟨(bd.add (t * 7)).block, (bd.add (t * 7)).off + 6, none⟩ = some (.slice C6 kl h6)) (ds := []) (bsR 19 0) (by kernel_rfl) rfl (by kernel_rfl) ⟨p0, p1, p2, v0, v1, v2, v3, v4, v5, v6, kc⟩ (fun hHeld => ?_)
          (refine pure_ (i := 0) (v := ?_) (a' := ?_) (bsR 19 1) rfl rfl (by kernel_rfl) (fun _ _ _ h => h) (Or.inl ⟨by rfl, ?_⟩) ?_ ?_; rotate_left; (intro w'; go_simp; with_reducible rfl); rotate_left; (go_simp; rfl))
          (refine pure_ (i := 1) (v := ?_) (a' := ?_) (bsR 19 2) rfl rfl (by kernel_rfl) (fun _ _ _ h => h) (Or.inl ⟨by rfl, ?_⟩) ?_ ?_; rotate_left; (intro w'; go_simp; with_reducible rfl); rotate_left; (go_simp; rfl))
          (refine pure_ (i := 2) (v := ?_) (a' := ?_) (bsR 19 3) rfl rfl (by kernel_rfl) (fun _ _ _ h => h) (Or.inl ⟨by rfl, ?_⟩) ?_ ?_; rotate_left; (intro w'; go_simp; with_reducible rfl); rotate_left; (go_simp; rfl))
          (refine pure_ (i := 3) (v := ?_) (a' := ?_) (bsR 19 4) rfl rfl (by kernel_rfl) (fun _ _ _ h => h) (Or.inl ⟨by rfl, ?_⟩) ?_ ?_; rotate_left; (intro w'; go_simp; with_reducible rfl); rotate_left; (go_simp; rfl))
          (refine take_ (i := 4) (v := ?_) (a' := ?_) (bsR 19 5) rfl rfl (by kernel_rfl) (fun _ _ _ h => h) (Or.inl ⟨by rfl, ?_⟩) hHeld ?_ ?_; rotate_left; (rintro w' ⟨s0, s1, s2, s3, s4, s5, s6, s7, s8, s9, s10⟩; go_simp; with_reducible rfl); rotate_left; (go_simp; rfl))
          (refine pure_ (i := 5) (v := ?_) (a' := ?_) (bsR 19 6) rfl rfl (by kernel_rfl) (fun _ _ _ h => h) (Or.inl ⟨by rfl, ?_⟩) ?_ ?_; rotate_left; (intro w'; go_simp; with_reducible rfl); rotate_left; (go_simp; rfl))
          (refine pure_ (i := 6) (v := ?_) (a' := ?_) (bsR 19 7) rfl rfl (by kernel_rfl) (fun _ _ _ h => h) (Or.inl ⟨by rfl, ?_⟩) ?_ ?_; rotate_left; (intro w'; go_simp; with_reducible rfl); rotate_left; (go_simp; rfl))
          (refine pure_ (i := 7) (v := ?_) (a' := ?_) (bsR 19 8) rfl rfl (by kernel_rfl) (fun _ _ _ h => h) (Or.inl ⟨by rfl, ?_⟩) ?_ ?_; rotate_left; (intro w'; go_simp; with_reducible rfl); rotate_left; (go_simp; rfl))
          (refine take_ (i := 8) (v := ?_) (a' := ?_) (bsR 19 9) rfl rfl (by kernel_rfl) (fun _ _ _ h => h) (Or.inl ⟨by rfl, ?_⟩) hHeld ?_ ?_; rotate_left; (rintro w' ⟨s0, s1, s2, s3, s4, s5, s6, s7, s8, s9, s10⟩; go_simp; with_reducible rfl); rotate_left; (go_simp; rfl))
          (refine pure_ (i := 9) (v := ?_) (a' := ?_) (bsR 19 10) rfl rfl (by kernel_rfl) (fun _ _ _ h => h) (Or.inl ⟨by rfl, ?_⟩) ?_ ?_; rotate_left; (intro w'; go_simp; with_reducible rfl); rotate_left; (go_simp; rfl))
          (refine take_ (i := 10) (v := ?_) (a' := ?_) (bsR 19 11) rfl rfl (by kernel_rfl) (fun _ _ _ h => h) (Or.inl ⟨by rfl, ?_⟩) hHeld ?_ ?_; rotate_left; (rintro w' ⟨s0, s1, s2, s3, s4, s5, s6, s7, s8, s9, s10⟩; go_simp; with_reducible rfl); rotate_left; (go_simp; rfl))
          refine one_ (i := 11) (N := (some 95)) (bsR 19 12) rfl rfl (by kernel_rfl) (by decide) (fun K hK => ?_)
          refine goes_ Try.func52 (by kernel_rfl) rfl #[.slice C6 kl h6, .int .i64 y.f0] (by rfl) rfl rfl (by (try simp only [List.map_toArray, List.map_cons, List.map_nil]); first | done | rfl) ?_
          refine (HIN.out _ HDR2.out).mono ?_
          rintro e w11 ⟨rfl, hd11⟩
          refine ⟨_, rfl, ?_⟩
          have HB11 : Aside0 (Below w10.heap.size w10 w11) := ⟨HDR2.out.trans hd11.below⟩
          clear hd11
          refine hK.out _ _ ⟨pw_cell_below HB11.out p0, pw_cell_below HB11.out p1, pw_cell_below HB11.out p2, pw_cell_below HB11.out v0, pw_cell_below HB11.out v1, pw_cell_below HB11.out v2, pw_cell_below HB11.out v3, pw_cell_below HB11.out v4, pw_cell_below HB11.out v5, pw_cell_below HB11.out v6, pw_cell_below HB11.out kc⟩ (fun hHeld => ?_)
          clear hK K
          (refine norm_ (a' := ?_) ?_ ?_; rotate_left; (show Act.put _ (some 95) _ = _; (go_simp; rfl)))
          (refine pure_ (i := 12) (v := ?_) (a' := ?_) (bsR 19 13) rfl rfl (by kernel_rfl) (fun _ _ _ h => h) (Or.inl ⟨by rfl, ?_⟩) ?_ ?_; rotate_left; (intro w'; go_simp; with_reducible rfl); rotate_left; (go_simp; rfl))
          (refine pure_ (i := 13) (v := ?_) (a' := ?_) (bsR 19 14) rfl rfl (by kernel_rfl) (fun _ _ _ h => h) (Or.inl ⟨by rfl, ?_⟩) ?_ ?_; rotate_left; (intro w'; go_simp; with_reducible rfl); rotate_left; (go_simp; rfl))
          (refine pure_ (i := 14) (v := ?_) (a' := ?_) (bsR 19 15) rfl rfl (by kernel_rfl) (fun _ _ _ h => h) (Or.inl ⟨by rfl, ?_⟩) ?_ ?_; rotate_left; (intro w'; go_simp; with_reducible rfl); rotate_left; (go_simp; rfl))
          (refine pure_ (i := 15) (v := undef) (a' := ?_) (bsR 19 16) rfl rfl (by kernel_rfl) (fun _ _ _ h => h) (Or.inr ⟨by rfl, rfl⟩) ?_ ?_; rotate_left; (go_simp; rfl))
          (refine pure_ (i := 16) (v := undef) (a' := ?_) (bsR 19 17) rfl rfl (by kernel_rfl) (fun _ _ _ h => h) (Or.inr ⟨by rfl, rfl⟩) ?_ ?_; rotate_left; (go_simp; rfl))
          (refine pure_ (i := 17) (v := undef) (a' := ?_) (bsR 19 18) rfl rfl (by kernel_rfl) (fun _ _ _ h => h) (Or.inr ⟨by rfl, rfl⟩) ?_ ?_; rotate_left; (go_simp; rfl))
          (refine pure_ (i := 18) (v := ?_) (a' := ?_) (bsR 19 19) rfl rfl (by kernel_rfl) (fun _ _ _ h => h) (Or.inl ⟨by rfl, ?_⟩) ?_ ?_; rotate_left; (intro w'; go_simp; with_reducible rfl); rotate_left; (go_simp; rfl))
          refine done_ (by kernel_rfl) ?_
          go_wp2_with fail
          go_meet
          exact ⟨by rw [hhq]; rfl, HB11⟩
         ·
          have hhq : hq = !lq := by rw [← hhq1, if_neg hI0]
          have dI : decide (I < 0) = false := decide_eq_false hI0
          clear hI0 hhq1
          refine start_ (n := 19) (S := fun w' => w'.cell? ⟨N, 0, none⟩ = some (.slice (some bd) m d) ∧ w'.cell? ⟨N, 1, none⟩ = some (.int .i64 r) ∧ w'.cell? ⟨N, 2, none⟩ = some (.int .i64 nx) ∧ w'.cell? ⟨b4, 0, none⟩ = some (.int .i64 y.f0) ∧ w'.cell? ⟨b4, 1, none⟩ = some (.int .i64 y.f1) ∧ w'.cell? ⟨b4, 2, none⟩ = some (.string y.f2) ∧ w'.cell? ⟨b4, 3, none⟩ = some (.string y.f3) ∧ w'.cell? ⟨b4, 4, none⟩ = some (.string y.f4) ∧ w'.cell? ⟨b4, 5, none⟩ = some (.slice B5 k5 g5) ∧ w'.cell? ⟨b4, 6, none⟩ = some (.slice B6 k6 g6) ∧ w'.cell? ⟨(bd.add (t * 7)).block, (bd.add (t * 7)).off + 6, none⟩ = some (.slice C6 kl h6)) (ds := []) (bsR 19 0) (by kernel_rfl) rfl (by kernel_rfl) ⟨p0, p1, p2, v0, v1, v2, v3, v4, v5, v6, kc⟩ (fun hHeld => ?_)
          (refine pure_ (i := 0) (v := ?_) (a' := ?_) (bsR 19 1) rfl rfl (by kernel_rfl) (fun _ _ _ h => h) (Or.inl ⟨by rfl, ?_⟩) ?_ ?_; rotate_left; (intro w'; go_simp; with_reducible rfl); rotate_left; (go_simp; rfl))
          (refine pure_ (i := 1) (v := ?_) (a' := ?_) (bsR 19 2) rfl rfl (by kernel_rfl) (fun _ _ _ h => h) (Or.inl ⟨by rfl, ?_⟩) ?_ ?_; rotate_left; (intro w'; go_simp; with_reducible rfl); rotate_left; (go_simp; rfl))
          (refine pure_ (i := 2) (v := ?_) (a' := ?_) (bsR 19 3) rfl rfl (by kernel_rfl) (fun _ _ _ h => h) (Or.inl ⟨by rfl, ?_⟩) ?_ ?_; rotate_left; (intro w'; go_simp; with_reducible rfl); rotate_left; (go_simp; rfl))
          (refine pure_ (i := 3) (v := ?_) (a' := ?_) (bsR 19 4) rfl rfl (by kernel_rfl) (fun _ _ _ h => h) (Or.inl ⟨by rfl, ?_⟩) ?_ ?_; rotate_left; (intro w'; go_simp; with_reducible rfl); rotate_left; (go_simp; rfl))
          (refine take_ (i := 4) (v := ?_) (a' := ?_) (bsR 19 5) rfl rfl (by kernel_rfl) (fun _ _ _ h => h) (Or.inl ⟨by rfl, ?_⟩) hHeld ?_ ?_; rotate_left; (rintro w' ⟨s0, s1, s2, s3, s4, s5, s6, s7, s8, s9, s10⟩; go_simp; with_reducible rfl); rotate_left; (go_simp; rfl))
          (refine pure_ (i := 5) (v := ?_) (a' := ?_) (bsR 19 6) rfl rfl (by kernel_rfl) (fun _ _ _ h => h) (Or.inl ⟨by rfl, ?_⟩) ?_ ?_; rotate_left; (intro w'; go_simp; with_reducible rfl); rotate_left; (go_simp; rfl))
          (refine pure_ (i := 6) (v := ?_) (a' := ?_) (bsR 19 7) rfl rfl (by kernel_rfl) (fun _ _ _ h => h) (Or.inl ⟨by rfl, ?_⟩) ?_ ?_; rotate_left; (intro w'; go_simp; with_reducible rfl); rotate_left; (go_simp; rfl))
          (refine pure_ (i := 7) (v := ?_) (a' := ?_) (bsR 19 8) rfl rfl (by kernel_rfl) (fun _ _ _ h => h) (Or.inl ⟨by rfl, ?_⟩) ?_ ?_; rotate_left; (intro w'; go_simp; with_reducible rfl); rotate_left; (go_simp; rfl))
          (refine take_ (i := 8) (v := ?_) (a' := ?_) (bsR 19 9) rfl rfl (by kernel_rfl) (fun _ _ _ h => h) (Or.inl ⟨by rfl, ?_⟩) hHeld ?_ ?_; rotate_left; (rintro w' ⟨s0, s1, s2, s3, s4, s5, s6, s7, s8, s9, s10⟩; go_simp; with_reducible rfl); rotate_left; (go_simp; rfl))
          (refine pure_ (i := 9) (v := ?_) (a' := ?_) (bsR 19 10) rfl rfl (by kernel_rfl) (fun _ _ _ h => h) (Or.inl ⟨by rfl, ?_⟩) ?_ ?_; rotate_left; (intro w'; go_simp; with_reducible rfl); rotate_left; (go_simp; rfl))
          (refine take_ (i := 10) (v := ?_) (a' := ?_) (bsR 19 11) rfl rfl (by kernel_rfl) (fun _ _ _ h => h) (Or.inl ⟨by rfl, ?_⟩) hHeld ?_ ?_; rotate_left; (rintro w' ⟨s0, s1, s2, s3, s4, s5, s6, s7, s8, s9, s10⟩; go_simp; with_reducible rfl); rotate_left; (go_simp; rfl))
          refine one_ (i := 11) (N := (some 95)) (bsR 19 12) rfl rfl (by kernel_rfl) (by decide) (fun K hK => ?_)
          refine goes_ Try.func52 (by kernel_rfl) rfl #[.slice C6 kl h6, .int .i64 y.f0] (by rfl) rfl rfl (by (try simp only [List.map_toArray, List.map_cons, List.map_nil]); first | done | rfl) ?_
          refine (HIN.out _ HDR2.out).mono ?_
          rintro e w11 ⟨rfl, hd11⟩
          refine ⟨_, rfl, ?_⟩
          have HB11 : Aside0 (Below w10.heap.size w10 w11) := ⟨HDR2.out.trans hd11.below⟩
          clear hd11
          refine hK.out _ _ ⟨pw_cell_below HB11.out p0, pw_cell_below HB11.out p1, pw_cell_below HB11.out p2, pw_cell_below HB11.out v0, pw_cell_below HB11.out v1, pw_cell_below HB11.out v2, pw_cell_below HB11.out v3, pw_cell_below HB11.out v4, pw_cell_below HB11.out v5, pw_cell_below HB11.out v6, pw_cell_below HB11.out kc⟩ (fun hHeld => ?_)
          clear hK K
          (refine norm_ (a' := ?_) ?_ ?_; rotate_left; (show Act.put _ (some 95) _ = _; (go_simp; rfl)))
          (refine pure_ (i := 12) (v := ?_) (a' := ?_) (bsR 19 13) rfl rfl (by kernel_rfl) (fun _ _ _ h => h) (Or.inl ⟨by rfl, ?_⟩) ?_ ?_; rotate_left; (intro w'; go_simp; with_reducible rfl); rotate_left; (go_simp; rfl))
          (refine pure_ (i := 13) (v := ?_) (a' := ?_) (bsR 19 14) rfl rfl (by kernel_rfl) (fun _ _ _ h => h) (Or.inl ⟨by rfl, ?_⟩) ?_ ?_; rotate_left; (intro w'; go_simp; with_reducible rfl); rotate_left; (go_simp; rfl))
          (refine pure_ (i := 14) (v := ?_) (a' := ?_) (bsR 19 15) rfl rfl (by kernel_rfl) (fun _ _ _ h => h) (Or.inl ⟨by rfl, ?_⟩) ?_ ?_; rotate_left; (intro w'; go_simp; with_reducible rfl); rotate_left; (go_simp; rfl))
          (refine take_ (i := 15) (v := ?_) (a' := ?_) (bsR 19 16) rfl rfl (by kernel_rfl) (fun _ _ _ h => h) (Or.inl ⟨by rfl, ?_⟩) hHeld ?_ ?_; rotate_left; (rintro w' ⟨s0, s1, s2, s3, s4, s5, s6, s7, s8, s9, s10⟩; go_simp; with_reducible rfl); rotate_left; (go_simp; rfl))
          (refine take_ (i := 16) (v := ?_) (a' := ?_) (bsR 19 17) rfl rfl (by kernel_rfl) (fun _ _ _ h => h) (Or.inl ⟨by rfl, ?_⟩) hHeld ?_ ?_; rotate_left; (rintro w' ⟨s0, s1, s2, s3, s4, s5, s6, s7, s8, s9, s10⟩; go_simp; with_reducible rfl); rotate_left; (go_simp; rfl))
          refine one_ (i := 17) (N := (some 101)) (bsR 19 18) rfl rfl (by kernel_rfl) (by decide) (fun K hK => ?_)
          refine goes_ Try.func53 (by kernel_rfl) rfl #[.agg #[.slice (some bd) m d, .int .i64 r, .int .i64 nx], .agg #[.int .i64 y.f0, .int .i64 y.f1, .string y.f2, .string y.f3, .string y.f4, .slice B5 k5 g5, .slice B6 k6 g6]] (by rfl) rfl rfl (by (try simp only [List.map_toArray, List.map_cons, List.map_nil]); first | done | rfl) ?_
          refine (HLB3.out _ HB11.out).mono ?_
          rintro e w12 ⟨rfl, hb12⟩
          refine ⟨_, rfl, ?_⟩
          have HB12 : Aside0 (Below w10.heap.size w10 w12) := ⟨HB11.out.trans (hb12.mono HB11.out.size)⟩
          clear hb12
          refine hK.out _ _ ⟨pw_cell_below HB12.out p0, pw_cell_below HB12.out p1, pw_cell_below HB12.out p2, pw_cell_below HB12.out v0, pw_cell_below HB12.out v1, pw_cell_below HB12.out v2, pw_cell_below HB12.out v3, pw_cell_below HB12.out v4, pw_cell_below HB12.out v5, pw_cell_below HB12.out v6, pw_cell_below HB12.out kc⟩ (fun hHeld => ?_)
          clear hK K
          (refine norm_ (a' := ?_) ?_ ?_; rotate_left; (show Act.put _ (some 101) _ = _; (go_simp; rfl)))
          (refine pure_ (i := 18) (v := ?_) (a' := ?_) (bsR 19 19) rfl rfl (by kernel_rfl) (fun _ _ _ h => h) (Or.inl ⟨by rfl, ?_⟩) ?_ ?_; rotate_left; (intro w'; go_simp; with_reducible rfl); rotate_left; (go_simp; rfl))
          refine done_ (by kernel_rfl) ?_
          go_wp2_with fail
          go_meet
          exact ⟨by rw [hhq]; rw [Bool.not_not], HB12⟩
       case rest =>
        obtain ⟨rfl, HB13⟩ := hcut
        have HBF : Aside0 (Below N w wc) := ⟨HBE.out.trans (HB13.out.mono HNE.out)⟩
        have HXF := Aside0.mk ((HB13.out.block _ (blk_lt HXE.out)).trans HXE.out)
        clear p0 p1 p2 v0 v1 v2 v3 v4 v5 v6
        cases hq with
        | false =>
         have HV : Aside0 (R = 9) := ⟨by rw [HZ3.out]; simp⟩
         go_wp2_with fail
         (try go_ret)
         exact ⟨by rw [HV.out]; rfl, by first | exact HBF.out | (rw [HNN.out]; exact HBF.out)⟩
        | true =>
         have HV : Aside0 (R = if checkRL ms nx (j + 1) (ms.drop (j + 1)) = true then (if rootR ms r = true then 0 else 9) else 9) := ⟨by rw [HZ3.out]; simp⟩
         go_wp2_with fail
         go_round
         case rel => exact ⟨j + 1, by omega, by go_num, HV, HBF, HXF⟩
         case measure => simp [intOf]; omega
  ·
   obtain rfl : j = m := by omega
   have hz := HZ.out
   rw [List.drop_eq_nil_of_le (by have := HM.out; omega), checkRL, if_pos rfl] at hz
   have HZ4 := Aside0.mk hz
   have d9 : decide ((j : Int) < (j : Int)) = false := decide_eq_false (by omega)
   clear hz
   by_cases h1 : r = 0
   ·
    have HV : Aside0 (R = 0) := ⟨by rw [HZ4.out, rootR, if_pos h1]; rfl⟩
    have f1 : (r != 0) = false := bne_eq_false_iff_eq.2 h1
    clear h1
    go_wp2_with fail
    (try go_ret)
    exact ⟨by rw [HV.out]; rfl, by first | exact HBR.out | (rw [HNN.out]; exact HBR.out)⟩
   ·
    have f1 : (r != 0) = true := bne_iff_ne.2 h1
    have HP0 := Aside0.mk (HPL.out r)
    have hpc := placeR_cases r ms
    have hz := HZ4.out
    unfold rootR at hz
    rw [if_neg h1] at hz
    obtain ⟨P, hP⟩ : ∃ P, placeR r ms 0 = P := ⟨_, rfl⟩
    rw [hP] at HP0 hpc hz
    clear h1 hP HZ4
    have HPC := Aside0.mk hpc
    have HZ5 := Aside0.mk hz
    clear hpc hz
    go_wp2_with fail
    refine (HP0.out _ (HNN.out ▸ HBR.out)).mono ?_
    rintro e w10 ⟨rfl, hb10⟩
    have HBE : Aside0 (Below N w w10) := ⟨HBR.out.trans (hb10.mono HNW.out)⟩
    have HXE := Aside0.mk ((hb10.block _ (blk_lt HXR.out)).trans HXR.out)
    clear hb10 q0 q1 q2
    have p0 : w10.cell? ⟨N, 0, none⟩ = some (.slice B j d) := blk_cell HXE.out 0
    rcases HPC.out with ⟨hp, -⟩ | ⟨t, ht, hp, -, -⟩
    ·
     subst hp
     have HV : Aside0 (R = 9) := ⟨by rw [HZ5.out, if_pos (show (-1 : Int) < 0 by decide)]; rfl⟩
     go_wp2_with fail
     (try go_ret)
     exact ⟨by rw [HV.out]; rfl, by first | exact HBE.out | (rw [HNN.out]; exact HBE.out)⟩
    ·
     subst hp
     have htm : (t : Int) < (j : Int) := by have := HM.out; omega
     obtain ⟨bd, C5', h5', C6, h6, rfl, -, pc1, pc2, -, -, -, -, -, -, -, -⟩ := at_T64 (Kd.C_below HD.out (HNN.out ▸ HBE.out)) (t : Int) (by omega) htm
     rw [Int.toNat_natCast] at pc1 pc2
     have hz := HZ5.out
     rw [if_neg (show ¬ (t : Int) < 0 by omega)] at hz
     obtain ⟨tg, htg⟩ : ∃ z, (rd_T64 ms (t : Int)).f2 = z := ⟨_, rfl⟩
     obtain ⟨pf, hpf⟩ : ∃ z, (rd_T64 ms (t : Int)).f1 = z := ⟨_, rfl⟩
     rw [htg] at pc2 hz
     rw [hpf] at pc1 hz
     have dP : decide ((t : Int) < 0) = false := decide_eq_false (by omega)
     clear htg hpf
     by_cases e2 : tg.toList = []
     ·
      have HV : Aside0 (R = 9) := ⟨by rw [hz, if_pos e2]; rfl⟩
      have d2 : (tg.toList == ([] : List UInt8)) = true := by rw [e2]; rfl
      clear hz
      go_wp2_with fail
      (try go_ret)
      exact ⟨by rw [HV.out]; rfl, by first | exact HBE.out | (rw [HNN.out]; exact HBE.out)⟩
     ·
      have d2 : (tg.toList == ([] : List UInt8)) = false := beq_eq_false_iff_ne.2 e2
      rw [if_neg e2] at hz
      by_cases e3 : pf = 0
      ·
       have HV : Aside0 (R = 0) := ⟨by rw [hz, decide_eq_true e3]; rfl⟩
       have d3' : (pf != 0) = false := bne_eq_false_iff_eq.2 e3
       clear hz
       go_wp2_with fail
       (try go_ret)
       exact ⟨by rw [HV.out]; rfl, by first | exact HBE.out | (rw [HNN.out]; exact HBE.out)⟩
      ·
       have HV : Aside0 (R = 9) := ⟨by rw [hz, decide_eq_false e3]; rfl⟩
       have d3' : (pf != 0) = true := bne_iff_ne.2 e3
       clear hz
       go_wp2_with fail
       (try go_ret)
       exact ⟨by rw [HV.out]; rfl, by first | exact HBE.out | (rw [HNN.out]; exact HBE.out)⟩
def fanlightref10_Check.f (l0_0 : List S64) (a0_1 a0_2 : Int) : Option Int := some (checkR l0_0 a0_1 a0_2)
theorem fanlightref10_Check.calls (A0_0 : Option Addr) (c0_0 : Nat) (l0_0 : List S64) (a0_1 a0_2 : Int) (r : Int) (w : World) (hr0_0 : Kd.C k64 w A0_0 l0_0.length l0_0) (hc0_0 : l0_0.length ≤ c0_0) (h : fanlightref10_Check.f l0_0 a0_1 a0_2 = some r) :
  Calls Try.prog 24 #[.agg #[.slice A0_0 l0_0.length c0_0, .int .i64 a0_1, .int .i64 a0_2]] w fun e w' => e = .returned (.int .i64 r) ∧ Below w.heap.size w w' := by
 injection h with h
 subst h
 exact checkR_is A0_0 c0_0 _ l0_0 a0_1 a0_2 w hr0_0 rfl hc0_0
end Go.Proofs.Ytleofbidijbahaa.D
