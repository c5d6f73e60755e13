import Derived.Test.YtkdaeleolomdkaaYD0
import Derived.Test.YtkdaeleolomdkaaYD9
namespace Go.Proofs.Ytkdaeleolomdkaa.D
open Go.RowKit Go.Proofs.YtkdaeleolomdkaaW.PrintWords Go.Proofs.YtkdaeleolomdkaaW.PrintLast Go.Proofs.YtkdaeleolomdkaaW.PrintMore
attribute [local go_sem] max2_int min2_int max_two min_two max_three min_three max_four min_four   -- for this text's walks alone
set_option linter.unusedVariables false
set_option linter.unusedSimpArgs false
def disk_anyBad (k : Nat) (l0 : List (List Int)) (l1 : List S57) : List S57 → Option Bool
 | [] => some false
 | x :: xs => if x.f0 = true then some true else (disk_State_check.f k l0 l1 x.f0 x.f1 x.f2).bind fun e => if e = 0 then disk_anyBad k l0 l1 xs else some true
def disk_Check.f (k : Nat) (l0_0 : List (List Int)) (l0_1 : List S57) : Option Int :=
 if l0_0.length = 0 ∨ 4096 < l0_0.length ∨ 4096 < l0_1.length ∨ (l0_0.any fun b => (b.length : Int) != 48) = true then some 9 else (disk_anyBad k l0_0 l0_1 l0_1).bind fun b => some (if b then 9 else 0)
theorem disk_anyBad_mono (l0 : List (List Int)) (l1 : List S57) (k : Nat) : ∀ l, LeO (disk_anyBad k l0 l1 l) (disk_anyBad (k + 1) l0 l1 l)
 | [] => LeO.refl _
 | x :: xs => by
  unfold disk_anyBad
  refine LeO.ite (LeO.refl _) (LeO.bind (disk_State_check.mono _ _ _ _ _ _) (fun e => ?_))
  exact LeO.ite (disk_anyBad_mono l0 l1 k xs) (LeO.refl _)
theorem disk_Check.mono : ∀ a0 a1 k, LeO (disk_Check.f k a0 a1) (disk_Check.f (k + 1) a0 a1) := by
 intro a0 a1 k
 unfold disk_Check.f
 exact LeO.ite (LeO.refl _) (LeO.bind (disk_anyBad_mono a0 a1 k a1) (fun _ => LeO.refl _))
theorem disk_odd_calls (A : Option Addr) (n c : Nat) (w : World) : Calls Try.prog 72 #[.slice A n c] w fun e w' => e = .returned (.bool ((n : Int) != 48)) ∧ w = w' := by
 go_enter Try.func72, Try.ntmps72
 go_wp2
 go_ret
 exact ⟨rfl, rfl⟩
set_option maxRecDepth 100000 in
set_option maxHeartbeats 2000000 in
theorem disk_index1 (A0 : Option Addr) (c0 : Nat) (l0 : List (List Int)) (w : World) (hr0 : Kd.C (Kd.slice 5 (Kd.int .u8)) w A0 l0.length l0) (hlen : l0.length ≤ 4096) :
  Calls Try.prog 82 #[.slice A0 l0.length c0, .func (.func 72) #[] #[]] w fun e w' => (∃ i : Int, e = .returned (.int .i64 i) ∧ (0 ≤ i ↔ (l0.any fun b => (b.length : Int) != 48) = true)) ∧ w = w' := by
 have HR := Aside0.mk hr0
 obtain ⟨n, hn⟩ : ∃ n, l0.length = n := ⟨_, rfl⟩
 have HN := Lib.hid hn
 have hnb : n ≤ 4096 := by rw [← hn]; exact hlen
 rw [hn]
 clear hr0 hlen hn
 go_enter Try.func82, Try.ntmps82
 go_wp2_with fail
 go_loop [8] (fun i => ∃ k : Nat, k ≤ n ∧ i = .int .i64 k ∧ Aside0 (∀ x ∈ l0.take k, (x.length : Int) = 48)) (fun i => n - (intOf i).toNat)
 case atStart => exact ⟨0, by omega, rfl, ⟨by simp⟩⟩
 case round =>
  obtain ⟨k, hk, rfl, HZ⟩ := hrel
  by_cases hlt : k < n
  ·
   obtain ⟨ad, A1, c1, e, hcell, -, -⟩ := at_L1 HR.out (k : Int) (by omega) (by have := HN.out; omega)
   subst e
   simp only [Int.toNat_natCast] at hcell
   have hx : l0.take (k + 1) = l0.take k ++ [rd_L1 l0 (k : Int)] := by
    have hk' : k < l0.length := by have := HN.out; omega
    rw [List.take_succ_eq_append_getElem hk']
    simp [rd_L1, hk']
   obtain ⟨x, hxe⟩ : ∃ x, rd_L1 l0 (k : Int) = x := ⟨_, rfl⟩
   rw [hxe] at hcell hx
   have HX := Lib.hid hx
   obtain ⟨m, hm⟩ : ∃ m, x.length = m := ⟨_, rfl⟩
   rw [hm] at hcell
   have HM := Lib.hid hm
   clear hx hxe hm
   by_cases hz : (m : Int) = 48
   ·
    have hb : ((m : Int) != 48) = false := bne_eq_false_iff_eq.2 hz
    have HZ48 := Aside0.mk hz
    clear hz
    go_wp2_with (go_at_call 72; refine (disk_odd_calls A1 m c1 _).mono ?_; rintro e w2 ⟨rfl, rfl⟩)
    go_round
    case rel =>
     refine ⟨k + 1, by omega, by go_num, ⟨fun y hy => ?_⟩⟩
     rw [HX.out] at hy
     rcases List.mem_append.1 hy with hy | hy
     ·
      exact HZ.out y hy
     ·
      rw [List.mem_singleton.1 hy, HM.out]; exact HZ48.out
    case measure => simp [intOf]; omega
   ·
    have hb : ((m : Int) != 48) = true := bne_iff_ne.2 hz
    go_wp2_with (go_at_call 72; refine (disk_odd_calls A1 m c1 _).mono ?_; rintro e w2 ⟨rfl, rfl⟩)
    go_ret
    refine ⟨⟨(k : Int), rfl, ?_⟩, rfl⟩
    refine ⟨fun _ => List.any_eq_true.2 ⟨x, ?_, by rw [HM.out]; exact hb⟩, fun _ => by omega⟩
    have : x ∈ l0.take (k + 1) := by rw [HX.out]; simp
    exact List.mem_of_mem_take this
  ·
   obtain rfl : k = n := by omega
   go_wp2
   go_ret
   refine ⟨⟨-1, rfl, ⟨fun h => by omega, fun h => ?_⟩⟩, rfl⟩
   obtain ⟨x, hx, hx2⟩ := h
   have hm : x ∈ l0.take k := by rw [List.take_of_length_le (by have := HN.out; omega)]; exact hx
   exact absurd (HZ.out x hm) hx2
theorem disk_contains1 (A0 : Option Addr) (c0 : Nat) (l0 : List (List Int)) (w : World) (hr0 : Kd.C (Kd.slice 5 (Kd.int .u8)) w A0 l0.length l0) (hl : l0.length ≤ 4096) :
  Calls Try.prog 75 #[.slice A0 l0.length c0, .func (.func 72) #[] #[]] w fun e w' => e = .returned (.bool (l0.any fun b => (b.length : Int) != 48)) ∧ w = w' := by
 have HC := Aside0.mk (disk_index1 A0 c0 l0 w hr0 hl)
 clear hr0 hl
 go_enter Try.func75, Try.ntmps75
 go_wp2_with (go_at_call 82; refine HC.out.mono ?_; rintro e w2 ⟨⟨i, rfl, hi⟩, rfl⟩; have HI := Aside0.mk hi; clear hi)
 go_ret
 refine ⟨?_, rfl⟩
 have hi := HI.out
 cases hr : (l0.any fun b => (b.length : Int) != 48) with
 | false =>
  rw [hr] at hi
  have hd : decide (0 ≤ i) = false := decide_eq_false (fun h => by have := hi.1 h; cases this)
  rw [hd]
  rfl
 | true =>
  have hd : decide (0 ≤ i) = true := decide_eq_true (hi.2 (by rw [hr]))
  rw [hd]
  rfl
theorem disk_bad_calls (k : Nat) (g : Nat) (A0 : Option Addr) (c0 : Nat) (l0 : List (List Int)) (A1 : Option Addr) (c1 : Nat) (l1 : List S57) (A2 : Option Addr) (c2 : Nat) (x : S57) (e : Int) (w : World) (hr0 : Kd.C (Kd.slice 5 (Kd.int .u8)) w A0 l0.length l0) (hc0 : l0.length ≤ c0) (hr1 : Kd.C k57 w A1 l1.length l1) (hc1 : l1.length ≤ c1) (hr2 : Kd.C (Kd.int .u8) w A2 x.f2.length x.f2) (hc2 : x.f2.length ≤ c2)
  (hg : w.heap[g]? = some (.cells #[.slice A0 l0.length c0, .slice A1 l1.length c1] 58)) (h : x.f0 = true ∨ disk_State_check.f k l0 l1 x.f0 x.f1 x.f2 = some e) :
  Calls Try.prog 73 #[.agg #[.bool x.f0, .int .i64 x.f1, .slice A2 x.f2.length c2], .pointer (some ⟨g, 0, none⟩)] w fun r w' => r = .returned (.bool (x.f0 || e != 0)) ∧ Below w.heap.size w w' := by
 have HK := Aside0.mk (fun (W : World) (hW : Below w.heap.size w W) (h : disk_State_check.f k l0 l1 x.f0 x.f1 x.f2 = some e) => disk_State_check.calls k A0 c0 l0 A1 c1 l1 x.f0 x.f1 A2 c2 x.f2 e W (Kd.C_below hr0 hW) hc0 (Kd.C_below hr1 hW) hc1 (Kd.C_below hr2 hW) hc2 h)
 obtain ⟨b, hb⟩ : ∃ b, x.f0 = b := ⟨_, rfl⟩
 obtain ⟨n0, hn0⟩ : ∃ n, l0.length = n := ⟨_, rfl⟩
 obtain ⟨n1, hn1⟩ : ∃ n, l1.length = n := ⟨_, rfl⟩
 obtain ⟨n2, hn2⟩ : ∃ n, x.f2.length = n := ⟨_, rfl⟩
 obtain ⟨z, hz⟩ : ∃ z, x.f1 = z := ⟨_, rfl⟩
 have HB := Lib.hid hb
 rw [hb] at h HK ⊢
 rw [hn0] at hg HK
 rw [hn1] at hg HK
 rw [hn2] at HK ⊢
 rw [hz] at HK h ⊢
 have HH := Aside0.mk h
 have HG := Aside0.mk hg
 clear hr0 hc0 hr1 hc1 hr2 hc2 hb hn0 hn1 hn2 hz h hg
 cases b with
 | true =>
  go_enter Try.func73, Try.ntmps73
  go_wp2_with fail
  go_ret
  exact ⟨rfl, below_alloc (Below.refl _ _) _⟩
 | false =>
  have hb1 := below_alloc (Below.refl w.heap.size w) (.cells #[.bool false, .int .i64 z, .slice A2 n2 c2] 57)
  have hG1 := (hb1.block _ (blk_lt HG.out)).trans HG.out
  have y0 : (w.alloc (.cells #[.bool false, .int .i64 z, .slice A2 n2 c2] 57)).cell? ⟨g, 0, none⟩ = some (.slice A0 n0 c0) := blk_cell hG1 0
  have y1 : (w.alloc (.cells #[.bool false, .int .i64 z, .slice A2 n2 c2] 57)).cell? ⟨g, 1, none⟩ = some (.slice A1 n1 c1) := blk_cell hG1 1
  have HB1 := Aside0.mk hb1
  clear hb1 hG1
  go_enter Try.func73, Try.ntmps73
  go_wp2_with fail
  refine (HK.out _ HB1.out (HH.out.resolve_left (by decide))).mono ?_
  rintro r wA ⟨rfl, hbA⟩
  have HB2 := Aside0.mk (HB1.out.trans (hbA.mono HB1.out.size))
  clear hbA y0 y1
  go_wp2_with fail
  go_ret
  exact ⟨rfl, HB2.out⟩
theorem disk_drop {l : List S57} {j : Nat} (h : j < l.length) : l.drop j = rd_T57 l (j : Int) :: l.drop (j + 1) := by
 rw [List.drop_eq_getElem_cons h]
 simp [rd_T57, h]
set_option maxRecDepth 100000 in
set_option maxHeartbeats 2000000 in
theorem disk_index2 (k : Nat) (g : Nat) (A0 : Option Addr) (c0 : Nat) (l0 : List (List Int)) (A1 : Option Addr) (c1 : Nat) (l1 : List S57) (b : Bool) (w : World) (hr0 : Kd.C (Kd.slice 5 (Kd.int .u8)) w A0 l0.length l0) (hc0 : l0.length ≤ c0) (hr1 : Kd.C k57 w A1 l1.length l1) (hc1 : l1.length ≤ c1)
  (hg : w.heap[g]? = some (.cells #[.slice A0 l0.length c0, .slice A1 l1.length c1] 58)) (hlen : l1.length ≤ 4096) (h : disk_anyBad k l0 l1 l1 = some b) :
  Calls Try.prog 83 #[.slice A1 l1.length c1, .func (.func 73) #[] #[.pointer (some ⟨g, 0, none⟩)]] w fun e w' => (∃ i : Int, e = .returned (.int .i64 i) ∧ (0 ≤ i ↔ b = true)) ∧ Below w.heap.size w w' := by
 have HK := Aside0.mk (fun (A2 : Option Addr) (c2 : Nat) (x : S57) (e : Int) (W : World) (hW : Below w.heap.size w W) (h2 : Kd.C (Kd.int .u8) W A2 x.f2.length x.f2) (h3 : x.f2.length ≤ c2) (h4 : x.f0 = true ∨ disk_State_check.f k l0 l1 x.f0 x.f1 x.f2 = some e) => disk_bad_calls k g A0 c0 l0 A1 c1 l1 A2 c2 x e W (Kd.C_below hr0 hW) hc0 (Kd.C_below hr1 hW) hc1 h2 h3 ((hW.block _ (blk_lt hg)).trans hg) h4)
 have HR := Aside0.mk hr1
 have HH := Aside0.mk h
 obtain ⟨n, hn⟩ : ∃ n, l1.length = n := ⟨_, rfl⟩
 have HN := Lib.hid hn
 have hnb : n ≤ 4096 := by rw [← hn]; exact hlen
 rw [hn] at HR ⊢
 clear hr0 hc0 hr1 hc1 hg hlen hn h
 go_enter Try.func83, Try.ntmps83
 go_wp2_with fail
 go_loopw [8] (fun i wr => ∃ j : Nat, j ≤ n ∧ i = .int .i64 j ∧ Aside0 (disk_anyBad k l0 l1 (l1.drop j) = some b) ∧ Aside0 (Below w.heap.size w wr)) (fun i _ => n - (intOf i).toNat)
 case atStart => exact ⟨0, by omega, rfl, HH, ⟨Below.refl _ _⟩⟩
 case round =>
  obtain ⟨j, hj, rfl, HA, HB⟩ := hrel
  by_cases hlt : j < n
  ·
   have hjl : j < l1.length := by have := HN.out; omega
   obtain ⟨ad, A2, c2, e, hx0, hx1, hx2, hl2, hC2⟩ := at_T57 (Kd.C_below HR.out HB.out) (j : Int) (by omega) (by have := HN.out; omega)
   subst e
   simp only [Int.toNat_natCast] at hx0 hx1 hx2
   have hA := HA.out
   rw [disk_drop hjl] at hA
   obtain ⟨x, hxe⟩ : ∃ x, rd_T57 l1 (j : Int) = x := ⟨_, rfl⟩
   rw [hxe] at hx0 hx1 hx2 hl2 hC2 hA
   have HC2 := Aside0.mk hC2
   have HL2 := Aside0.mk hl2
   clear hxe hjl hC2 hl2
   obtain ⟨e, b1, he, hb1⟩ : ∃ (e : Int) (b1 : Bool), (x.f0 = true ∨ disk_State_check.f k l0 l1 x.f0 x.f1 x.f2 = some e) ∧ (x.f0 || e != 0) = b1 ∧ (if b1 = true then some true else disk_anyBad k l0 l1 (l1.drop (j + 1))) = some b := by
    rw [disk_anyBad] at hA
    by_cases hf : x.f0 = true
    ·
     rw [if_pos hf] at hA
     exact ⟨0, true, .inl hf, by rw [hf]; rfl, by rw [if_pos rfl]; exact hA⟩
    ·
     rw [if_neg hf] at hA
     obtain ⟨e, h1, h2⟩ := Option.bind_eq_some_iff.1 hA
     by_cases hz : e = 0
     ·
      rw [if_pos hz] at h2
      exact ⟨e, false, .inr h1, by simp [hf, hz], by rw [if_neg (by decide)]; exact h2⟩
     ·
      rw [if_neg hz] at h2
      exact ⟨e, true, .inr h1, by simp [hz], by rw [if_pos rfl]; exact h2⟩
   have hcl := HK.out A2 c2 x e _ HB.out HC2.out HL2.out he
   rw [hb1.1] at hcl
   have HCL := Aside0.mk hcl
   have HB1 := Aside0.mk hb1.2
   obtain ⟨m, hm⟩ : ∃ m, x.f2.length = m := ⟨_, rfl⟩
   rw [hm] at hx2 HCL
   clear hA he hb1 hcl HL2 HC2 hm
   have hj0 : decide ((j : Int) < (n : Int)) = true := decide_eq_true (by omega)
   cases b1 with
   | true =>
    have hbt : b = true := by have := HB1.out; rw [if_pos rfl] at this; exact (Option.some.inj this).symm
    subst hbt
    go_wp2_with (go_at_call 73; refine HCL.out.mono ?_; rintro r wA ⟨rfl, hbA⟩; have HB2 := Aside0.mk (HB.out.trans (hbA.mono HB.out.size)); clear hbA)
    go_ret
    exact ⟨⟨(j : Int), rfl, by first | exact ⟨fun _ => rfl, fun _ => by omega⟩ | omega⟩, HB2.out⟩
   | false =>
    have hA2 : disk_anyBad k l0 l1 (l1.drop (j + 1)) = some b := by have := HB1.out; rw [if_neg (by decide)] at this; exact this
    have HA2 := Aside0.mk hA2
    clear hA2 HB1 HA
    go_wp2_with (go_at_call 73; refine HCL.out.mono ?_; rintro r wA ⟨rfl, hbA⟩; have HB2 := Aside0.mk (HB.out.trans (hbA.mono HB.out.size)); clear hbA)
    exact ⟨⟨j + 1, by omega, by go_num, HA2, HB2⟩, by simp [intOf]; omega⟩
  ·
   obtain rfl : n = j := by omega
   have hA := HA.out
   rw [List.drop_of_length_le (by have := HN.out; omega)] at hA
   have hbf : b = false := (Option.some.inj hA).symm
   have HBF := Aside0.mk hbf
   clear hA hbf
   go_wp2_with fail
   go_ret
   exact ⟨⟨-1, rfl, ⟨fun h => by omega, fun h => by rw [HBF.out] at h; cases h⟩⟩, HB.out⟩
theorem disk_contains2 (k : Nat) (g : Nat) (A0 : Option Addr) (c0 : Nat) (l0 : List (List Int)) (A1 : Option Addr) (c1 : Nat) (l1 : List S57) (b : Bool) (w : World) (hr0 : Kd.C (Kd.slice 5 (Kd.int .u8)) w A0 l0.length l0) (hc0 : l0.length ≤ c0) (hr1 : Kd.C k57 w A1 l1.length l1) (hc1 : l1.length ≤ c1)
  (hg : w.heap[g]? = some (.cells #[.slice A0 l0.length c0, .slice A1 l1.length c1] 58)) (hlen : l1.length ≤ 4096) (h : disk_anyBad k l0 l1 l1 = some b) :
  Calls Try.prog 76 #[.slice A1 l1.length c1, .func (.func 73) #[] #[.pointer (some ⟨g, 0, none⟩)]] w fun e w' => e = .returned (.bool b) ∧ Below w.heap.size w w' := by
 have HC := Aside0.mk (disk_index2 k g A0 c0 l0 A1 c1 l1 b w hr0 hc0 hr1 hc1 hg hlen h)
 clear hr0 hc0 hr1 hc1 hg hlen h
 go_enter Try.func76, Try.ntmps76
 go_wp2_with (go_at_call 83; refine HC.out.mono ?_; rintro e w2 ⟨⟨i, rfl, hi⟩, hb⟩; have HI := Aside0.mk hi; have HB := Aside0.mk hb; clear hi hb)
 go_ret
 refine ⟨?_, HB.out⟩
 have hi := HI.out
 cases b with
 | false =>
  have hd : decide (0 ≤ i) = false := decide_eq_false (fun h => by have := hi.1 h; cases this)
  rw [hd]
  rfl
 | true =>
  have hd : decide (0 ≤ i) = true := decide_eq_true (hi.2 rfl)
  rw [hd]
  rfl
set_option maxRecDepth 100000 in
set_option maxHeartbeats 4000000 in
theorem disk_Check.calls (k : Nat) (A0_0 : Option Addr) (c0_0 : Nat) (l0_0 : List (List Int)) (A0_1 : Option Addr) (c0_1 : Nat) (l0_1 : List S57) (r : Int) (w : World) (hr0_0 : Kd.C (Kd.slice 5 (Kd.int .u8)) w A0_0 l0_0.length l0_0) (hc0_0 : l0_0.length ≤ c0_0) (hr0_1 : Kd.C k57 w A0_1 l0_1.length l0_1) (hc0_1 : l0_1.length ≤ c0_1) (h : disk_Check.f k l0_0 l0_1 = some r) :
  Calls Try.prog 53 #[.agg #[.slice A0_0 l0_0.length c0_0, .slice A0_1 l0_1.length c0_1]] w fun e w' => e = .returned (.int .i64 r) ∧ Below w.heap.size w w' := by
 have hu58 := Try.underlying58
 have hb1 := below_alloc (Below.refl w.heap.size w) (.cells #[.slice A0_0 l0_0.length c0_0, .slice A0_1 l0_1.length c0_1] 58)
 have hx1 := World.alloc_heap_new w (.cells #[.slice A0_0 l0_0.length c0_0, .slice A0_1 l0_1.length c0_1] 58)
 have H1 := Aside0.mk (fun hl => disk_contains1 A0_0 c0_0 l0_0 (w.alloc (.cells #[.slice A0_0 l0_0.length c0_0, .slice A0_1 l0_1.length c0_1] 58)) (Kd.C_below hr0_0 hb1) hl)
 have H2 := Aside0.mk (fun b hl hb => disk_contains2 k w.heap.size A0_0 c0_0 l0_0 A0_1 c0_1 l0_1 b (w.alloc (.cells #[.slice A0_0 l0_0.length c0_0, .slice A0_1 l0_1.length c0_1] 58)) (Kd.C_below hr0_0 hb1) hc0_0 (Kd.C_below hr0_1 hb1) hc0_1 hx1 hl hb)
 have HB := Aside0.mk hb1
 have x0 : (w.alloc (.cells #[.slice A0_0 l0_0.length c0_0, .slice A0_1 l0_1.length c0_1] 58)).cell? ⟨w.heap.size, 0, none⟩ = some (.slice A0_0 l0_0.length c0_0) := blk_cell hx1 0
 have x1 : (w.alloc (.cells #[.slice A0_0 l0_0.length c0_0, .slice A0_1 l0_1.length c0_1] 58)).cell? ⟨w.heap.size, 1, none⟩ = some (.slice A0_1 l0_1.length c0_1) := blk_cell hx1 1
 obtain ⟨n0, hn0⟩ : ∃ n, l0_0.length = n := ⟨_, rfl⟩
 obtain ⟨n1, hn1⟩ : ∃ n, l0_1.length = n := ⟨_, rfl⟩
 unfold disk_Check.f at h
 rw [hn0, hn1] at h
 rw [hn0, hn1] at H1 H2 HB x0 x1 ⊢
 clear hr0_0 hc0_0 hr0_1 hc0_1 hb1 hx1 hn0 hn1
 go_enter Try.func53, Try.ntmps53
 by_cases ca : n0 = 0
 ·
  rw [if_pos (.inl ca)] at h
  obtain rfl := Option.some.inj h
  subst ca
  clear h H1 H2
  go_wp2_with fail
  go_ret
  exact ⟨rfl, HB.out⟩
 by_cases cb : 4096 < n0
 ·
  rw [if_pos (.inr (.inl cb))] at h
  obtain rfl := Option.some.inj h
  have d0 : ((n0 : Int) == 0) = false := beq_eq_false_iff_ne.mpr (by omega)
  have d1 : decide ((n0 : Int) > 4096) = true := decide_eq_true (by omega)
  clear h H1 H2
  go_wp2_with fail
  go_ret
  exact ⟨rfl, HB.out⟩
 have d0 : ((n0 : Int) == 0) = false := beq_eq_false_iff_ne.mpr (by omega)
 have d1 : decide ((n0 : Int) > 4096) = false := decide_eq_false (by omega)
 by_cases cc : 4096 < n1
 ·
  rw [if_pos (.inr (.inr (.inl cc)))] at h
  obtain rfl := Option.some.inj h
  have d2 : decide ((n1 : Int) > 4096) = true := decide_eq_true (by omega)
  clear h H1 H2
  go_wp2_with fail
  go_ret
  exact ⟨rfl, HB.out⟩
 have d2 : decide ((n1 : Int) > 4096) = false := decide_eq_false (by omega)
 have H1' := Aside0.mk (H1.out (by omega))
 obtain ⟨o, ho⟩ : ∃ o, (l0_0.any fun b => (b.length : Int) != 48) = o := ⟨_, rfl⟩
 rw [ho] at h H1'
 cases o with
 | true =>
  rw [if_pos (.inr (.inr (.inr rfl)))] at h
  obtain rfl := Option.some.inj h
  clear h H1 H2 ho
  go_wp2_with (go_at_call 75; refine H1'.out.mono ?_; rintro e w2 ⟨rfl, rfl⟩)
  go_ret
  exact ⟨rfl, HB.out⟩
 | false =>
  rw [if_neg (by rintro (h | h | h | h) <;> first | omega | cases h)] at h
  obtain ⟨b, hb, hr⟩ := Option.bind_eq_some_iff.1 h
  have H2' := Aside0.mk (H2.out b (by omega) hb)
  obtain rfl := Option.some.inj hr
  clear h H1 H2 ho hb hr
  cases b with
  | true =>
   go_wp2_with (first | (go_at_call 75; refine H1'.out.mono ?_; rintro e w2 ⟨rfl, rfl⟩) | (go_at_call 76; refine H2'.out.mono ?_; rintro e w3 ⟨rfl, hb3⟩; have HB3 := Aside0.mk (HB.out.trans (hb3.mono HB.out.size)); clear hb3))
   go_ret
   exact ⟨rfl, HB3.out⟩
  | false =>
   go_wp2_with (first | (go_at_call 75; refine H1'.out.mono ?_; rintro e w2 ⟨rfl, rfl⟩) | (go_at_call 76; refine H2'.out.mono ?_; rintro e w3 ⟨rfl, hb3⟩; have HB3 := Aside0.mk (HB.out.trans (hb3.mono HB.out.size)); clear hb3))
   go_ret
   exact ⟨rfl, HB3.out⟩
end Go.Proofs.Ytkdaeleolomdkaa.D
