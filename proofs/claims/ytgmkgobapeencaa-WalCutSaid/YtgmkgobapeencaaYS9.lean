import Derived.Test.YtgmkgobapeencaaYS2
set_option linter.unusedVariables false
set_option linter.unusedSimpArgs false
namespace Go.Proofs.Ytgmkgobapeencaa.S
open Go.RowKit Go.Proofs.YtgmkgobapeencaaW.PrintWords Go.Proofs.YtgmkgobapeencaaW.PrintLast Go.Proofs.YtgmkgobapeencaaW.PrintMore
attribute [local go_sem] max2_int min2_int max_two min_two max_three min_three max_four min_four   -- for this text's walks alone
def wal_put.l0 : Nat → Int → List Int → Int → Int → Option (List Int)
 | 0, _, _, _, _ => none
 | k + 1, x0, x3, x7, x8 => if x8 < x7 then (if 0 ≤ (wrap64 (8 * (wrap64 (7 - x8)))) then (if 0 ≤ x8 then (if x8 < (x3.length : Int) then (wal_put.l0 k x0 (x3.set (x8 : Int).toNat ((shr .i64 x0 (wrap64 (8 * (wrap64 (7 - x8))))) % 256)) x7 (wrap64 (x8 + 1))) else (none)) else (none)) else (none)) else (some x3)
def wal_put.f (k : Nat) (a0 : Int) : Option (List Int) := if 8 ≤ 281474976710656 then ((some (List.replicate 8 0 : List Int)).bind fun y161 => (wal_put.l0 k a0 y161 (y161.length : Int) 0)) else (none)
theorem wal_put.mono_l : ∀ k, (∀ y0 y1 y2 y3, LeO (wal_put.l0 k y0 y1 y2 y3) (wal_put.l0 (k + 1) y0 y1 y2 y3))
 | 0 => fun _ _ _ _ r h => by simp [wal_put.l0] at h
 | k + 1 => by
  have ih0 := wal_put.mono_l k
  ·
   intro y0 y1 y2 y3
   unfold wal_put.l0
   repeat' first
   | (with_reducible exact ih0 _ _ _ _)
   | with_reducible first | exact LeO.refl _ | exact LeO.none _ | refine LeO.ite ?_ ?_ | refine LeO.bind ?_ fun _ => ?_
theorem wal_put.mono : ∀ a0 k, LeO (wal_put.f k a0) (wal_put.f (k + 1) a0) := by
 intro a0 k
 have ih0 := wal_put.mono_l k
 unfold wal_put.f
 repeat' first
   | (with_reducible exact ih0 _ _ _ _)
   | with_reducible first | exact LeO.refl _ | exact LeO.none _ | refine LeO.ite ?_ ?_ | refine LeO.bind ?_ fun _ => ?_
set_option maxHeartbeats 8000000 in
set_option maxRecDepth 100000 in
theorem wal_put.calls (k : Nat) (a0 : Int) (r : List Int) (w : World) (h : wal_put.f k a0 = some r) :
  Calls Try.prog 29 #[.int .i64 a0] w fun e w' => ∃ v0_ : Value, e = .returned (v0_) ∧ Kd.R (Kd.int .u8) 5 w' w.heap.size (fun _ => True) v0_ r ∧ Below w.heap.size w w' := by
 have HB := Aside0.mk (Below.refl w.heap.size w)
 have H : (if 8 ≤ 281474976710656 then ((some (List.replicate 8 0 : List Int)).bind fun y161 => (wal_put.l0 k a0 y161 (y161.length : Int) 0)) else (none)) = some r := h
 clear h
 by_cases c2 : 8 ≤ 281474976710656
 ·
  rw [if_pos c2] at H
  have c2b0 := eq_true c2
  have c2b1 : decide (8 ≤ 281474976710656) = true := decide_eq_true c2
  clear c2
  obtain ⟨y161, hy161⟩ : ∃ y_ : List Int, y_ = (List.replicate 8 0) := ⟨_, rfl⟩
  replace H : (wal_put.l0 k a0 y161 (y161.length : Int) 0) = some r := by first | (rw [hy161]; with_reducible exact H) | (have H2_ := (Option.bind_some _ _).symm.trans H; rw [hy161]; with_reducible exact H2_) | (have H2_ := (Option.bind_some _ _).symm.trans H; with_reducible exact H2_) | with_reducible exact H | (rw [hy161]; exact H) | exact H
  have Ny161 := Aside0.mk hy161
  clear hy161
  have H' := Aside0.mk H
  clear H
  go_enter Try.func29, Try.ntmps29
  go_wp2_with (first | ((with_reducible refine gate_dst (N := 5) rfl ?_); refine Kd.R_make (Kd.int .u8) _ 5 rfl (N := 5) rfl 25 _ _ rfl 8 rfl rfl Try.underlying25 (.int .u8 0) 1 info5 rfl (by decide) (by omega) 0 (ok := fun _ => True) (okp := fun _ => True) rfl (fun _ hk => hk) trivial (by omega) (by omega) (Below.refl _ _) (Nat.le_refl _) ?_; intro v162 w3 ho4 hb hg_ hnew_; clear hg_ hnew_; (first | rw [← Ny161.out] at ho4 | (simp only [Int.reduceToNat] at ho4; rw [← Ny161.out] at ho4)); have n0_ := Aside0.mk (Kd.R_lower ho4 (below_size (by repeat (first | (with_reducible first | exact HB.out | apply below_alloc | apply pw_below_drewN | apply below_drew1) | exact HB.out)))); have n1_ := Aside0.mk (below_step (by repeat (first | (with_reducible first | exact HB.out | apply below_alloc | apply pw_below_drewN | apply below_drew1) | exact HB.out)) hb); clear HB; have HO163 := n0_; have HB := n1_; clear n0_ n1_; clear hb ho4; obtain ⟨Ao5, co5, eo5⟩ := Kd.R_slice HO163.out; subst eo5))
  go_loopg [8] k (fun kq v8 w' => ∃ (x3_1 : List Int) (x8_1 : Int), v8 = .int .i64 x8_1 ∧ Aside0 (wal_put.l0 kq a0 x3_1 (y161.length : Int) x8_1 = some r) ∧ Aside0 (kq ≤ k) ∧ Aside0 (Kd.R (Kd.int .u8) 5 w' w.heap.size (fun _ => True) (.slice Ao5 y161.length co5) x3_1) ∧ Aside0 (Below w.heap.size w w'))
  case atStart => exact ⟨(y161), (0), (by first | rfl | (simp; done) | (simp [*]; done)), H', ⟨Nat.le_refl _⟩, ⟨by (with_reducible repeat (first | apply Kd.R_alloc | apply Kd.R_drewN | apply Kd.R_drew)); exact HO163.out⟩, ⟨by repeat (first | (with_reducible first | exact HB.out | apply below_alloc | apply pw_below_drewN | apply below_drew1) | exact HB.out)⟩⟩
  case round =>
   clear H'
   try clear c2
   try clear c2b0
   try clear c2b1
   try clear p2
   obtain ⟨x3_1, x8_1, rfl, HA, HK1, HO_3, HB⟩ := hrel
   have hl3_1 := (Kd.R_reads' HO_3.out).1
   rw [hl3_1] at HO_3
   (try simp only [hl3_1])
   cases gk with
   | zero => exact absurd HA.out (by simp [wal_put.l0])
   | succ k1 =>
    have H := HA.out
    clear HA
    simp only [wal_put.l0] at H
    by_cases c6 : x8_1 < (y161.length : Int)
    ·
     rw [if_pos c6] at H
     have c6b0 : decide (x8_1 < (y161.length : Int)) = true := decide_eq_true c6
     clear c6
     obtain ⟨ji7, hji7⟩ : ∃ j_ : Int, (wrap64 (8 * (wrap64 (7 - x8_1)))) = j_ := ⟨_, rfl⟩
     replace H : (if 0 ≤ (ji7) then (if 0 ≤ x8_1 then (if x8_1 < (x3_1.length : Int) then (wal_put.l0 k1 a0 (x3_1.set (x8_1 : Int).toNat ((shr .i64 a0 (ji7)) % 256)) (y161.length : Int) (wrap64 (x8_1 + 1))) else (none)) else (none)) else (none)) = some r := by first | (rw [hji7] at H; exact H) | (simp only [hji7] at H ⊢; exact H)
     have hji7w : (IntKind.i64.wrap (8 * (wrap64 (7 - x8_1)))) = ji7 := (i64_w _).trans hji7
     by_cases c8 : 0 ≤ (ji7)
     ·
      rw [if_pos c8] at H
      have c8b0 := eq_true c8
      have c8b1 : decide (0 ≤ (ji7)) = true := decide_eq_true c8
      clear c8
      obtain ⟨ji9, hji9⟩ : ∃ j_ : Int, (shr .i64 a0 (ji7)) = j_ := ⟨_, rfl⟩
      replace H : (if 0 ≤ x8_1 then (if x8_1 < (x3_1.length : Int) then (wal_put.l0 k1 a0 (x3_1.set (x8_1 : Int).toNat ((ji9) % 256)) (y161.length : Int) (wrap64 (x8_1 + 1))) else (none)) else (none)) = some r := by first | (rw [hji9] at H; exact H) | (simp only [hji9] at H ⊢; exact H)
      have hji9_ : (a0 / 2 ^ min (ji7).toNat 64) = ji9 := hji9
      have hji9z : (ji7) ≤ 64 → (a0 / 2 ^ (ji7).toNat) = ji9 := shr_small hji9
      by_cases c10 : 0 ≤ x8_1
      ·
       rw [if_pos c10] at H
       have c10b0 : decide (0 ≤ x8_1) = true := decide_eq_true c10
       clear c10
       by_cases c11 : x8_1 < (x3_1.length : Int)
       ·
        rw [if_pos c11] at H
        have c11b0 : decide (x8_1 < (x3_1.length : Int)) = true := decide_eq_true c11
        clear c11
        obtain ⟨y164, hy164⟩ : ∃ y_ : List Int, y_ = (x3_1.set (x8_1 : Int).toNat ((ji9) % 256)) := ⟨_, rfl⟩
        replace H : (wal_put.l0 k1 a0 y164 (y161.length : Int) (wrap64 (x8_1 + 1))) = some r := by first | (rw [hy164]; with_reducible exact H) | (have H2_ := (Option.bind_some _ _).symm.trans H; rw [hy164]; with_reducible exact H2_) | (have H2_ := (Option.bind_some _ _).symm.trans H; with_reducible exact H2_) | with_reducible exact H | (rw [hy164]; exact H) | exact H
        have Ny164 := Aside0.mk hy164
        clear hy164
        have H' := Aside0.mk H
        clear H
        have p12 : 0 ≤ (x8_1 : Int) := oD
        have q12 : (x8_1 : Int) < ((x3_1.length : Int) : Int) := oD
        obtain ⟨go12, co12, eo12, gb12, gl12, cl12, HG12⟩ := Kd.R_form HO_3.out (by omega)
        (first | cases eo12 | (injection eo12 with ea_ en_ ec_; (first | subst ea_ | (injection ea_ with ea_; subst ea_)); subst ec_; clear en_))
        have GB12 := Aside0.mk gb12
        have GG12 := Aside0.mk HG12
        clear gb12 gl12 HG12
        obtain ⟨hx12_0, hf12_0⟩ := Kd.R_celln 0 HO_3.out (x8_1 : Int) p12 q12
        replace p12 := eq_true p12
        replace q12 := eq_true q12
        have HP13 := Kd.R_putg HO_3.out (x8_1 : Int) ((ji9) % 256)
        go_wp2_with (first | ((with_reducible refine gate_store (t := 5) (p := 19) rfl ?_); refine store_event (t := 5) (p := 19) (v := ?vo_w14) (w1 := (wr.setCell ⟨go12, (x8_1 : Int).toNat, none⟩ (.int .u8 ((ji9) % 256)))) ?hg ?ho ?hn ?hr ?_; (case ho => rfl); (case hg => rfl); (case hn => rfl); (case hr => go_simp <;> rfl); intro w14 hw; have hg : wr.grownBy w14 (some go12) := (by rw [hw]; exact HP13.2); have hp_ : Kd.R (Kd.int .u8) 5 w14 w.heap.size (fun _ => True) (.slice (some ⟨go12, 0, none⟩) x3_1.length co5) y164 := (by rw [hw, Ny164.out]; exact HP13.1); clear HP13; have n0_ := Aside0.mk (hp_); have n1_ := Aside0.mk ((by rw [hw]; exact below_set (HB.out) GB12.out : Below w.heap.size w w14)); clear HO_3; clear HB; have HO_3 := n0_; have HB := n1_; clear n0_ n1_; clear hg hw hp_))
        (try simp only [← hl3_1])
        go_roundg k1
        case measure => have := HK1.out; omega
        case rel => exact ⟨(y164), (wrap64 (x8_1 + 1)), (by first | rfl | (simp; done) | (simp [*]; done)), H', ⟨by have := HK1.out; omega⟩, ⟨by (try simp only [hl3_1]); (with_reducible repeat (first | apply Kd.R_alloc | apply Kd.R_drewN | apply Kd.R_drew)); exact HO_3.out⟩, ⟨by repeat (first | (with_reducible first | exact HB.out | apply below_alloc | apply pw_below_drewN | apply below_drew1) | exact HB.out)⟩⟩
       ·
        rw [if_neg c11] at H
        exact absurd H (by simp)
      ·
       rw [if_neg c10] at H
       exact absurd H (by simp)
     ·
      rw [if_neg c8] at H
      exact absurd H (by simp)
    ·
     rw [if_neg c6] at H
     have c6b0 : decide (x8_1 < (y161.length : Int)) = false := decide_eq_false c6
     (try (have c6b9 := c6b0; rw [hl3_1] at c6b9))
     clear c6
     obtain rfl := Option.some.inj H
     go_wp2
     go_ret
     exact ⟨_, eE, by (with_reducible repeat (first | apply Kd.R_alloc | apply Kd.R_drewN | apply Kd.R_drew)); exact HO_3.out, by repeat (first | (with_reducible first | exact HB.out | apply below_alloc | apply pw_below_drewN | apply below_drew1) | exact HB.out)⟩
 ·
  rw [if_neg c2] at H
  exact absurd H (by simp)
end Go.Proofs.Ytgmkgobapeencaa.S
namespace Go.Proofs.Ytgmkgobapeencaa.S
open Go.RowKit Go.Proofs.YtgmkgobapeencaaW.PrintWords Go.Proofs.YtgmkgobapeencaaW.PrintLast Go.Proofs.YtgmkgobapeencaaW.PrintMore
attribute [local go_sem] max2_int min2_int max_two min_two max_three min_three max_four min_four   -- for this text's walks alone
def wal_Log_clone.f (l0_0 : List (List Int)) (a0_1 : Int) : Option (List (List Int) × Int) := if l0_0.length ≤ 1000000 ∧ ∀ s ∈ l0_0, s.length < 140737488355328 then some (l0_0, a0_1) else none
theorem cloneRows (A0 : Option Addr) (c0 : Nat) (l0 : List (List Int)) (w : World) (N : Nat) (hN : N ≤ w.heap.size) (hf0 : Kd.F (Kd.slice 5 (Kd.int .u8)) w (fun k => k < N) A0 l0.length l0) (hlen : l0.length ≤ 1000000) :
  Calls Try.prog 40 #[.slice A0 l0.length c0] w fun e w' => ∃ v : Value, e = .returned v ∧ Kd.PartS (Kd.slice 5 (Kd.int .u8)) 25 w' w.heap.size N v l0 0 ∧ Below w.heap.size w w' := by
 have hr0 := Kd.F_now hf0
 cases A0 with
 | none =>
  have e0 : l0 = [] := by
   cases l0 with
   | nil => rfl
   | cons x xs =>
    obtain ⟨ad, c, e, _⟩ := Kd.C_get hr0 ([] : List Int) 0 (by omega) (by simp)
    cases e
  subst e0
  have hq := fun W : World => Lib.run_eql_slice_nil (P := Try.prog) W 22 25 none (List.length ([] : List (List Int))) c0 0 0 Try.underlying22
  simp only [List.length_nil] at hq
  clear hr0 hf0 hN
  go_enter Try.func40, Try.ntmps40
  go_wp2
  go_ret
  exact ⟨_, rfl, Kd.PartS_start (rows := []) (Kd.R_nil _ _ _ _ _) rfl (fun j x c hx => by simp at hx), Below.refl _ _⟩
 | some ad =>
  have hq := fun W : World => Lib.run_eql_slice_nil (P := Try.prog) W 22 25 (some ad) l0.length c0 0 0 Try.underlying22
  have HF0 := Aside0.mk hf0
  have HL0 := Aside0.mk hlen
  have HN0 := Aside0.mk hN
  clear hr0 hlen hf0 hN
  go_enter Try.func40, Try.ntmps40
  go_wp2_with (first | ((with_reducible refine gate_dst (N := 5) rfl ?_); refine Kd.R_lit (Kd.raw 1) (w0 := w) w.heap.size 25 ?hg (N := 5) ?hd (xs := ([] : List (List Value))) (inner := []) (ok := fun _ => True) (okp := fun _ => True) ?hr ?hp (fun _ hk => hk) trivial (Below.refl _ _) (Nat.le_refl _) (by simp) ?_; (case hd => rfl); (case hg => rfl); (case hr => go_simp <;> rfl); (case hp => exact Reps.none _ _); intro v102 w2 ho3 hb hg_ hnew_; clear hg_ hnew_; have HO := Aside0.mk ho3; have HB := Aside0.mk hb; clear hb ho3) | ((with_reducible refine gate_builtin (b := .append) (xs := #[.tmp 5, .tmp 6]) rfl ?_); at_builtin; refine Kd.PartS_append_rows (Kd.slice 5 (Kd.int .u8)) (w0 := w) w.heap.size N rfl (.tmp 5) (.tmp 6) 22 25 (.slice none 0 0) 24 rfl Try.underlying22 info25 rfl (by decide) (by omega) v102 l0 _ _ _ rfl rfl ?aO ?aR HN0.out ?aB ?aS ?aL ?_; (case aR => exact (Kd.F_below HF0.out HB.out)); (case aB => exact HB.out); (case aO => exact HO.out); (case aS => exact (below_size HB.out)); (case aL => have := HL0.out; omega); intro v121 w3 ho hb; have HP := Aside0.mk ho; have HB3 := Aside0.mk hb; clear ho hb))
  go_ret
  exact ⟨_, rfl, HP.out, HB3.out⟩
set_option maxRecDepth 100000 in
set_option maxHeartbeats 4000000 in
theorem logclone1 (A0 : Option Addr) (c0 : Nat) (l0 : List (List Int)) (a1 : Int) (w : World) (hr0 : Kd.C (Kd.slice 5 (Kd.int .u8)) w A0 l0.length l0) (hlen : l0.length ≤ 1000000) (hel : ∀ s ∈ l0, s.length < 140737488355328) :
  Calls Try.prog 26 #[.agg #[.slice A0 l0.length c0, .int .i64 a1]] w fun e w' => ∃ v0_ : Value, e = .returned (.agg #[v0_, .int .i64 a1]) ∧ Kd.S (Kd.slice 5 (Kd.int .u8)) 25 w' w.heap.size (fun _ => True) v0_ l0 ∧ Below w.heap.size w w' := by
 have HF := Kd.C_F (Kd.heap_slice 5 (Kd.heap_int .u8)) hr0
 have HCL := Aside0.mk (fun (W : World) (hW : Below w.heap.size w W) => cloneRows A0 c0 l0 W w.heap.size hW.size (Kd.F_below HF hW) hlen)
 have HEL := Aside0.mk hel
 clear hr0 hel HF
 obtain ⟨n, hn⟩ : ∃ n, l0.length = n := ⟨_, rfl⟩
 have HN := Lib.hid hn
 have hnb : n ≤ 1000000 := by rw [← hn]; exact hlen
 rw [hn] at HCL ⊢
 clear hn hlen
 have HB0 := Aside0.mk (below_alloc (below_alloc (Below.refl w.heap.size w) (.cells #[.slice A0 n c0, .int .i64 a1] 27)) (.cells #[.slice none 0 0, .int .i64 0] 27))
 have HXA := Aside0.mk ((Below.heap_alloc (w.alloc (.cells #[.slice A0 n c0, .int .i64 a1] 27)) (.cells #[.slice none 0 0, .int .i64 0] 27) w.heap.size (by simp)).trans (World.alloc_heap_new w (.cells #[.slice A0 n c0, .int .i64 a1] 27)))
 have HXB := Aside0.mk (World.alloc_heap_new (w.alloc (.cells #[.slice A0 n c0, .int .i64 a1] 27)) (.cells #[.slice none 0 0, .int .i64 0] 27))
 simp only [World.size_alloc] at HXB
 go_enter Try.func26, Try.ntmps26
 go_wp2_with fail
 refine (HCL.out _ HB0.out).mono ?_
 rintro e w1 ⟨v1, rfl, hp1, hb1⟩
 obtain ⟨A1, c1, rfl⟩ := Kd.PartS_slice hp1
 rw [HN.out] at hp1 ⊢
 have HB1 := Aside0.mk (HB0.out.trans (hb1.mono HB0.out.size))
 have HXA1 := Aside0.mk ((hb1.block _ (blk_lt HXA.out)).trans HXA.out)
 have HXB1 := Aside0.mk ((hb1.block _ (blk_lt HXB.out)).trans HXB.out)
 obtain ⟨bb, hbb⟩ : ∃ bb, ((w.alloc (.cells #[.slice A0 n c0, .int .i64 a1] 27)).alloc (.cells #[.slice none 0 0, .int .i64 0] 27)).heap.size = bb := ⟨_, rfl⟩
 rw [hbb] at hp1
 have hle : w.heap.size + 2 ≤ bb := by rw [← hbb]; simp
 have HP1 := Aside0.mk (Kd.PartS_set hp1 HXA1.out (by decide) (Nat.le_refl _) 0 (.slice A1 n c1))
 have HXA2 := Aside0.mk (blk_put HXA1.out 0 (.slice A1 n c1) rfl)
 have HXB2 := Aside0.mk (blk_far HXB1.out (p := ⟨w.heap.size, 0, none⟩) (by show w.heap.size + 1 ≠ w.heap.size; omega) (.slice A1 n c1))
 have HB2 := Aside0.mk (HB1.out.setCell (p := ⟨w.heap.size, 0, none⟩) (Nat.le_refl _) (.slice A1 n c1))
 have y0 : w1.cell? ⟨w.heap.size, 0, none⟩ = some (.slice A0 n c0) := blk_cell HXA1.out 0
 have yf : ∀ i, w1.frozen? ⟨w.heap.size, i, none⟩ = false := fun i => by simp [World.frozen?, HXA1.out]
 have z0 : (w1.setCell ⟨w.heap.size, 0, none⟩ (.slice A1 n c1)).cell? ⟨w.heap.size, 0, none⟩ = some (.slice A1 n c1) := blk_cell HXA2.out 0
 clear hp1 hb1 hbb HB0 HXA HXB HCL HXA1 HXB1 HB1
 go_wp2_with fail
 go_loopw [12] (fun i wr => ∃ k : Nat, k ≤ n ∧ i = .int .i64 k ∧ Aside0 (Kd.PartS (Kd.slice 5 (Kd.int .u8)) 25 wr bb w.heap.size (.slice A1 n c1) l0 k) ∧ Aside0 (wr.heap[w.heap.size]? = some (.cells #[.slice A1 n c1, .int .i64 a1] 27 (0, 0))) ∧ Aside0 (wr.heap[w.heap.size + 1]? = some (.cells #[.slice none 0 0, .int .i64 0] 27 (0, 0))) ∧ Aside0 (Below w.heap.size w wr)) (fun i _ => n - (intOf i).toNat)
 case atStart => exact ⟨0, by omega, rfl, HP1, HXA2, HXB2, HB2⟩
 case round =>
  clear HP1 HXA2 HXB2 HB2 y0 yf z0
  obtain ⟨k, hk, rfl, HP, HXA, HXB, HB⟩ := hrel
  by_cases hlt : k < n
  ·
   have hlt' : k < l0.length := by rw [HN.out]; omega
   obtain ⟨g, cap, e, hg1, hg2, _⟩ := Kd.PartS_form HP.out (by omega)
   obtain ⟨rfl, -, rfl⟩ : A1 = some ⟨g, 0, none⟩ ∧ n = l0.length ∧ c1 = cap := by simpa using e
   obtain ⟨c, hcl, hcc, hfr, hfk⟩ := Kd.PartS_cells HP.out k hlt'
   obtain ⟨A2, c2, rfl, hl2, hC2⟩ := Kd.FK_now (hfk (Nat.le_refl _))
   have hrl := HEL.out l0[k] (List.getElem_mem hlt')
   have hi0 : k * (Kd.slice 5 (Kd.int .u8)).sz + 0 = k := by show k * 1 + 0 = k; omega
   have hx := hcc 0 _ rfl
   have hf0 := hfr 0
   rw [hi0] at hx hf0
   have HCC := Aside0.mk hcc
   have HCL := Aside0.mk (fun (W : World) (hW : Below wr.heap.size wr W) => bytes_Clone.calls A2 c2 l0[k] l0[k] W (Kd.C_below hC2 hW) hl2 (by unfold bytes_Clone.f; rw [if_pos hrl]))
   obtain ⟨m, hm⟩ : ∃ m, l0[k].length = m := ⟨_, rfl⟩
   rw [hm] at hx HCL
   have HM := Lib.hid hm
   have HI := Lib.hid hi0
   have x0 : wr.cell? ⟨w.heap.size, 0, none⟩ = some (.slice (some ⟨g, 0, none⟩) n c1) := blk_cell HXA.out 0
   have hne : g ≠ w.heap.size := by omega
   clear hm hi0 hcc hfr hfk hl2 hC2 hrl hcl e
   go_wp2_with fail
   go_region_held3 (fun w' => w'.cell? ⟨w.heap.size, 0, none⟩ = some (.slice (some ⟨g, 0, none⟩) n c1)) (first | exact pw_cell_below HBC.out x0 | exact x0 | go_keep) ((go_at_call 37; refine (HCL.out _ (below_drew1 (Below.refl _ _))).mono ?_; rintro e wC ⟨vC, rfl, hoC, hbC⟩; obtain ⟨AC, cC, rfl⟩ := Kd.R_slice hoC; have HOC := Aside0.mk hoC; have HBC := Aside0.mk ((below_drew1 (Below.refl _ _)).trans (hbC.mono (below_size (below_drew1 (Below.refl _ _))))); have z0 := pw_cell_below HBC.out x0; have zx := pw_cell_below HBC.out hx; have zf : wC.frozen? ⟨g, k, none⟩ = false := (HBC.out.frozen (p := ⟨g, k, none⟩) hg2).trans hf0; clear hoC hbC))
   have hM : (Kd.slice 5 (Kd.int .u8)).M wC bb (fun q => wr.heap.size ≤ q) l0[k] [.slice AC l0[k].length cC] := ⟨_, rfl, Kd.R_lower (Kd.R_mono (Kd.R_bound HOC.out) (fun q hq => hq.2.1)) (show bb ≤ wr.drew.heap.size from by show bb ≤ wr.heap.size; omega)⟩
   have HPN := Aside0.mk (Kd.PartS_store (W1 := wC) (c := [.slice A2 l0[k].length c2]) (seg := [.slice AC l0[k].length cC]) (j := 0) (okp := fun q => wr.heap.size ≤ q) HP.out hlt' (by omega) rfl HCC.out HBC.out (Nat.le_refl 1) hM (fun _ h => h))
   rw [HI.out] at HPN
   go_wp2_with fail
   exact ⟨⟨k + 1, by omega, by go_num, HPN, ⟨blk_far (blk_below HXA.out HBC.out) (p := ⟨g, k, none⟩) (by show w.heap.size ≠ g; omega) _⟩, ⟨blk_far (blk_below HXB.out HBC.out) (p := ⟨g, k, none⟩) (by show w.heap.size + 1 ≠ g; omega) _⟩, ⟨(HB.out.trans (HBC.out.mono HB.out.size)).setCell (p := ⟨g, k, none⟩) (by show w.heap.size ≤ g; omega) _⟩⟩, by simp [intOf]; omega⟩
  ·
   obtain rfl : k = n := by omega
   have x0 : wr.cell? ⟨w.heap.size, 0, none⟩ = some (.slice A1 k c1) := blk_cell HXA.out 0
   have x1 : wr.cell? ⟨w.heap.size, 1, none⟩ = some (.int .i64 a1) := blk_cell HXA.out 1
   have u0 : wr.cell? ⟨w.heap.size + 1, 0, none⟩ = some (.slice none 0 0) := blk_cell HXB.out 0
   have u1 : wr.cell? ⟨w.heap.size + 1, 1, none⟩ = some (.int .i64 0) := blk_cell HXB.out 1
   have uf : ∀ i, wr.frozen? ⟨w.heap.size + 1, i, none⟩ = false := fun i => by simp [World.frozen?, HXB.out]
   have hfin := Kd.PartS_end (d := Kd.slice 5 (Kd.int .u8)) (e := 25) (W := wr) (base := bb) (N := w.heap.size) (v := .slice A1 k c1) (xs := l0) (by rw [HN.out]; exact HP.out)
   have HFIN := Aside0.mk (Kd.S_lower (Kd.S_set (Kd.S_set hfin HXB.out (by decide) 0 (.slice A1 k c1)) (blk_put HXB.out 0 _ rfl) (by decide) 1 (.int .i64 a1)) (show w.heap.size ≤ bb by omega))
   have HBF := Aside0.mk ((HB.out.setCell (p := ⟨w.heap.size + 1, 0, none⟩) (by show w.heap.size ≤ w.heap.size + 1; omega) (.slice A1 k c1)).setCell (p := ⟨w.heap.size + 1, 1, none⟩) (by show w.heap.size ≤ w.heap.size + 1; omega) (.int .i64 a1))
   have HXF := Aside0.mk (blk_put (blk_put HXB.out 0 (.slice A1 k c1) rfl) 1 (.int .i64 a1) rfl)
   clear hfin
   go_wp2_with fail
   exact bodyPost_ret (results_cell_row rfl _ _ (w.heap.size + 1) 27 #[.slice A1 k c1, .int .i64 a1] (0, 0) _ rfl HXF.out Try.underlying27 rfl (by kernel_rfl)) rfl ⟨_, rfl, HFIN.out, HBF.out⟩
theorem wal_Log_clone.calls (A0_0 : Option Addr) (c0_0 : Nat) (l0_0 : List (List Int)) (a0_1 : Int) (r1 : List (List Int)) (r2 : Int) (w : World) (hr0_0 : Kd.C (Kd.slice 5 (Kd.int .u8)) w A0_0 l0_0.length l0_0) (hc0_0 : l0_0.length ≤ c0_0) (h : wal_Log_clone.f l0_0 a0_1 = some (r1, r2)) :
  Calls Try.prog 26 #[.agg #[.slice A0_0 l0_0.length c0_0, .int .i64 a0_1]] w fun e w' => ∃ v0_ : Value, e = .returned (.agg #[v0_, .int .i64 r2]) ∧ Kd.S (Kd.slice 5 (Kd.int .u8)) 25 w' w.heap.size (fun _ => True) v0_ r1 ∧ Below w.heap.size w w' := by
 unfold wal_Log_clone.f at h
 split at h
 ·
  rename_i hl
  injection h with h
  injection h with h1 h2
  subst h1 h2
  exact logclone1 A0_0 c0_0 l0_0 a0_1 w hr0_0 hl.1 hl.2
 ·
  cases h
end Go.Proofs.Ytgmkgobapeencaa.S
