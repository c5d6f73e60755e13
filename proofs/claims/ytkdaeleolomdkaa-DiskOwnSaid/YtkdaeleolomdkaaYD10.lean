import Derived.Test.YtkdaeleolomdkaaYD0
import Derived.Test.YtkdaeleolomdkaaYD3
import Derived.Test.YtkdaeleolomdkaaYD8
import Derived.Test.YtkdaeleolomdkaaYD9
namespace Go.Proofs.Ytkdaeleolomdkaa.D
open Go.RowKit Go.Proofs.YtkdaeleolomdkaaW.PrintWords Go.Proofs.YtkdaeleolomdkaaW.PrintLast Go.Proofs.YtkdaeleolomdkaaW.PrintMore
attribute [local go_sem] max2_int min2_int max_two min_two max_three min_three max_four min_four   -- for this text's walks alone
set_option linter.unusedVariables false
set_option linter.unusedSimpArgs false
def chkW (n : Nat) (x1 : Int) (m : Nat) : Int := if x1 < 0 ∨ (n : Int) < x1 ∨ (n : Int) - x1 < ((m + 47) / 48 : Nat) then 4 else if m = 0 ∨ m % 48 ≠ 0 then 1 else 0
theorem chkW_is (k : Nat) (l0 : List (List Int)) (l1 : List S57) (f0 : Bool) (x1 : Int) (f2 : List Int) (hl0 : l0.length ≤ 1099511627776) (hl : f2.length ≤ 140737488355328) : disk_State_check.f (k + 1) l0 l1 f0 x1 f2 = some (chkW l0.length x1 f2.length) := by
 obtain ⟨m, hm⟩ : ∃ m, f2.length = m := ⟨_, rfl⟩
 obtain ⟨n, hn⟩ : ∃ m, l0.length = m := ⟨_, rfl⟩
 have hq : disk_sectors.f (m : Int) = some (((m + 47) / 48 : Nat) : Int) := by
  unfold disk_sectors.f
  have e1 : wrap64 ((m : Int) + 48) = (m : Int) + 48 := by unfold wrap64; omega
  rw [e1]
  have e2 : wrap64 ((m : Int) + 48 - 1) = ((m + 47 : Nat) : Int) := by unfold wrap64; omega
  have e3 : Int.tdiv ((m + 47 : Nat) : Int) 48 = (((m + 47) / 48 : Nat) : Int) := (Int.ofNat_tdiv (m + 47) 48).symm
  rw [e2, e3]
  congr 1
  unfold wrap64
  omega
 unfold disk_State_check.f chkW
 rw [hm, hn, hq]
 obtain ⟨q, hqq⟩ : ∃ q, (m + 47) / 48 = q := ⟨_, rfl⟩
 have hqb : q ≤ 2932031007403 := by omega
 have hmm : ((m : Int) % 48 = 0) = (m % 48 = 0) := by apply propext; omega
 rw [hqq]
 by_cases c1 : x1 < 0
 ·
  rw [if_pos c1, if_pos (.inl c1)]; rfl
 ·
  rw [if_neg c1]
  by_cases c2 : x1 > (n : Int)
  ·
   rw [if_pos c2, if_pos (.inr (.inl c2))]; rfl
  ·
   rw [if_neg c2]
   simp only [Option.bind_some]
   have e1 : wrap64 ((n : Int) - x1) = (n : Int) - x1 := by unfold wrap64; omega
   rw [e1]
   by_cases c3 : (q : Int) > (n : Int) - x1
   ·
    rw [decide_eq_true c3, if_pos (.inr (.inr c3))]; rfl
   ·
    rw [decide_eq_false c3, if_neg (by omega)]
    simp only [disk_State_check.j0]
    rw [if_neg (show ¬ (false = true) by decide), hm]
    by_cases c4 : m = 0
    ·
     rw [if_pos (by omega), if_pos (.inl c4)]
    ·
     rw [if_neg (by omega)]
     by_cases c5 : m % 48 = 0
     ·
      rw [if_pos (by omega), if_neg (by omega)]
     ·
      rw [if_neg (by omega), if_pos (.inr c5)]
def doF (secs : List (List Int)) (cache : List S57) (x : S57) : List (List Int) × List S57 × Int :=
 if x.f0 = true then (if x.f1 ≠ 0 ∨ 0 < x.f2.length then (secs, cache, 1) else (settleL (fun _ => 4096) 0 cache secs, [], 0))
 else if chkW secs.length x.f1 x.f2.length ≠ 0 then (secs, cache, chkW secs.length x.f1 x.f2.length)
 else if cache.length = 4096 then (secs, cache, 51) else (secs, cache ++ [x], 0)
def DSt (W : World) (base g : Nat) (secs : List (List Int)) (cache : List S57) : Prop :=
 ∃ (v0 v1 : Value) (P : Nat → Prop), W.heap[g]? = some (.cells #[v0, v1] 58 (0, 0)) ∧ ¬ P g ∧ Kd.S (Kd.slice 5 (Kd.int .u8)) 22 W base P v0 secs ∧ Kd.S k57 57 W base (fun k => ¬ P k) v1 cache
structure OkS (secs : List (List Int)) (cache : List S57) : Prop where
 s0 : 0 < secs.length
 sl : secs.length ≤ 4096
 s48 : ∀ s ∈ secs, s.length = 48
 cl : cache.length ≤ 4096
 cok : ∀ x ∈ cache, okW secs.length x
theorem do1_const (i : Int) (w : World) : Calls Try.prog 79 #[.int .i64 i] w fun e w' => e = .returned (.int .i64 4096) ∧ w' = w := by
 go_enter Try.func79, Try.ntmps79
 go_wp2
 go_ret
 exact ⟨rfl, rfl⟩
set_option maxRecDepth 100000 in
set_option maxHeartbeats 4000000 in
theorem do_is (g : Nat) (secs : List (List Int)) (cache : List S57) (x : S57) (A2 : Option Addr) (c2 : Nat) (base : Nat) (w : World) (hbase : base ≤ w.heap.size) (hD : DSt w base g secs cache) (hO : OkS secs cache)
  (hx : Kd.C (Kd.int .u8) w A2 x.f2.length x.f2) (hxc : x.f2.length ≤ c2) (hxl : x.f2.length < 140737488355328) :
  Calls Try.prog 55 #[.pointer (some ⟨g, 0, none⟩), .agg #[.bool x.f0, .int .i64 x.f1, .slice A2 x.f2.length c2]] w fun e w' => e = .returned (.int .i64 (doF secs cache x).2.2) ∧ DSt w' base g (doF secs cache x).1 (doF secs cache x).2.1 ∧ BB base g w w' := by
 obtain ⟨v0, v1, P0, hg, hPg0, hS00, hS10⟩ := hD
 obtain ⟨P, hP⟩ : ∃ P : Nat → Prop, P = fun k => P0 k ∧ k < w.heap.size := ⟨_, rfl⟩
 have hPl : ∀ k, P k → k < w.heap.size := fun k hk => by rw [hP] at hk; exact hk.2
 have hPg : ¬ P g := fun hk => by rw [hP] at hk; exact hPg0 hk.1
 have hS0 := Kd.S_mono (Kd.S_bound hS00) (ok' := P) (fun k hk => by rw [hP]; exact ⟨hk.1, hk.2.2.1⟩)
 have hS1 := Kd.S_mono (Kd.S_bound hS10) (ok' := fun k => ¬ P k ∧ k < w.heap.size) (fun k hk => ⟨fun h => by rw [hP] at h; exact hk.1 h.1, hk.2.2.1⟩)
 clear hP hS00 hS10 hPg0
 obtain ⟨A0, c0, rfl⟩ := Kd.S_slice hS0
 obtain ⟨A1, c1, rfl⟩ := Kd.S_slice hS1
 have hXN := World.alloc_heap_new w (.cells #[.bool x.f0, .int .i64 x.f1, .slice A2 x.f2.length c2] 57)
 have hbl := below_alloc (Below.refl w.heap.size w) (.cells #[.bool x.f0, .int .i64 x.f1, .slice A2 x.f2.length c2] 57)
 have hg1 := blk_below hg hbl
 have hS0' := Kd.S_below hS0 hbl
 have hS1' := Kd.S_below hS1 hbl
 have hx' := Kd.C_below hx hbl
 have hsz : (w.alloc (.cells #[.bool x.f0, .int .i64 x.f1, .slice A2 x.f2.length c2] 57)).heap.size = w.heap.size + 1 := by simp
 have hgl := blk_lt hg
 have hset := settle_is g (.slice A0 secs.length c0) secs A1 c1 cache 79 #[] (fun _ => 4096) P base _ (by omega) hg1 hPg hS0' (Kd.R_F (Kd.S_R (Kd.S_mono hS1' (fun _ hk => hk.1)))) hO.s0 hO.sl hO.s48 hO.cl hO.cok (enters_of Try.func79 (by kernel_rfl) rfl) (fun _ => ⟨by omega, by omega⟩) (fun i W _ _ => do1_const i W)
 have hchk := fun (W : World) (hb : Below (w.heap.size + 1) (w.alloc (.cells #[.bool x.f0, .int .i64 x.f1, .slice A2 x.f2.length c2] 57)) W) => by
  have hb' : Below (w.alloc (.cells #[.bool x.f0, .int .i64 x.f1, .slice A2 x.f2.length c2] 57)).heap.size (w.alloc (.cells #[.bool x.f0, .int .i64 x.f1, .slice A2 x.f2.length c2] 57)) W := by rw [hsz]; exact hb
  exact disk_State_check.calls 1 A0 c0 secs A1 c1 cache false x.f1 A2 c2 x.f2 (chkW secs.length x.f1 x.f2.length) W (Kd.C_below (Kd.S_reads' hS0').2.2 hb') (Kd.S_reads' hS0').2.1 (Kd.C_below (Kd.S_reads' hS1').2.2 hb') (Kd.S_reads' hS1').2.1 (Kd.C_below hx' hb') hxc (chkW_is 0 secs cache false x.f1 x.f2 (by have := hO.sl; omega) (by omega))
 have hclone := fun (W : World) (hb : Below (w.heap.size + 1) (w.alloc (.cells #[.bool x.f0, .int .i64 x.f1, .slice A2 x.f2.length c2] 57)) W) => by
  have hb' : Below (w.alloc (.cells #[.bool x.f0, .int .i64 x.f1, .slice A2 x.f2.length c2] 57)).heap.size (w.alloc (.cells #[.bool x.f0, .int .i64 x.f1, .slice A2 x.f2.length c2] 57)) W := by rw [hsz]; exact hb
  exact bytes_Clone.calls A2 c2 x.f2 x.f2 W (Kd.C_below hx' hb') hxc (by unfold bytes_Clone.f; rw [if_pos hxl])
 obtain ⟨W1, hW1⟩ : ∃ W, w.alloc (.cells #[.bool x.f0, .int .i64 x.f1, .slice A2 x.f2.length c2] 57) = W := ⟨_, rfl⟩
 have hent : Calls Try.prog 55 #[.pointer (some ⟨g, 0, none⟩), .agg #[.bool x.f0, .int .i64 x.f1, .slice A2 x.f2.length c2]] w fun e w' => e = .returned (.int .i64 (doF secs cache x).2.2) ∧ DSt w' base g (doF secs cache x).1 (doF secs cache x).2.1 ∧ BB base g w w' := by
  rw [hW1] at hXN hbl hg1 hS0' hS1' hx' hsz hset hchk hclone
  have HSET := Aside0.mk hset
  have HCHK := Aside0.mk hchk
  have HCL := Aside0.mk hclone
  have HS0 := Aside0.mk hS0'
  have HS1 := Aside0.mk hS1'
  have HBL := Aside0.mk hbl
  have HXN := Aside0.mk hXN
  have HG1 := Aside0.mk hg1
  have HSZ := Aside0.mk hsz
  have HO := Aside0.mk hO
  have hdo : doF secs cache x = doF secs cache x := rfl
  conv at hdo => rhs; unfold doF
  obtain ⟨n0, hn0⟩ : ∃ n, secs.length = n := ⟨_, rfl⟩
  obtain ⟨n1, hn1⟩ : ∃ n, cache.length = n := ⟨_, rfl⟩
  obtain ⟨m, hm⟩ : ∃ n, x.f2.length = n := ⟨_, rfl⟩
  obtain ⟨z1, hz1⟩ : ∃ n, x.f1 = n := ⟨_, rfl⟩
  obtain ⟨b, hb⟩ : ∃ n, x.f0 = n := ⟨_, rfl⟩
  rw [hn0, hn1, hm, hz1, hb] at hdo
  rw [hm, hz1, hb] at hW1
  rw [hn0, hm, hz1] at HCHK
  rw [hm] at HCL
  rw [hn0] at HG1 HSET HS0
  rw [hn1] at HCHK HG1
  rw [hn1] at HS1
  rw [hm, hz1, hb] at HXN ⊢
  have hmb : m < 140737488355328 := by omega
  have hn1b : n1 ≤ 4096 := by have := hO.cl; omega
  obtain ⟨R, hR⟩ : ∃ R, doF secs cache x = R := ⟨_, rfl⟩
  rw [hR] at hdo ⊢
  have HM := Lib.hid hm
  have HZ1 := Lib.hid hz1
  have HB := Lib.hid hb
  have HN0 := Lib.hid hn0
  have HN1 := Lib.hid hn1
  have y0 : W1.cell? ⟨w.heap.size, 0, none⟩ = some (.bool b) := blk_cell HXN.out 0
  have y1 : W1.cell? ⟨w.heap.size, 1, none⟩ = some (.int .i64 z1) := blk_cell HXN.out 1
  have y2 : W1.cell? ⟨w.heap.size, 2, none⟩ = some (.slice A2 m c2) := blk_cell HXN.out 2
  clear hset hchk hclone hS0' hS1' hbl hXN hg1 hsz hO hn0 hn1 hm hz1 hb hR hx hx' hxc hxl hS0 hS1 hg
  cases b with
  | true =>
   rw [if_pos rfl] at hdo
   by_cases hc : z1 ≠ 0 ∨ 0 < m
   ·
    rw [if_pos hc] at hdo
    have HR := Lib.hid hdo
    clear hdo
    have HRET : Aside0 (DSt W1 base g R.1 R.2.1 ∧ BB base g w W1 ∧ R.2.2 = 1) := ⟨by
     rw [HR.out]
     refine ⟨⟨_, _, P, by rw [HN0.out] at *; exact HG1.out, hPg, HS0.out, Kd.S_mono HS1.out (fun _ hk => hk.1)⟩, BB.of_below ⟨HBL.out.os, HBL.out.tape, HBL.out.output, HBL.out.size, fun k hk => HBL.out.block k (by omega)⟩, rfl⟩⟩
    have h1 := HRET.out.2.2
    rw [h1]
    clear HSET HCHK HCL h1
    by_cases hz : z1 = 0
    ·
     have hm0 : 0 < m := hc.resolve_left (fun h => h hz)
     subst hz
     have hd : decide ((m : Int) > 0) = true := decide_eq_true (by omega)
     clear hc
     go_enter Try.func55, Try.ntmps55
     go_wp2_with fail
     go_ret
     exact ⟨rfl, HRET.out.1, HRET.out.2.1⟩
    ·
     have hd : (z1 != 0) = true := bne_iff_ne.mpr hz
     clear hc
     go_enter Try.func55, Try.ntmps55
     go_wp2_with fail
     go_ret
     exact ⟨rfl, HRET.out.1, HRET.out.2.1⟩
   ·
    rw [if_neg hc] at hdo
    have HR := Lib.hid hdo
    obtain rfl : z1 = 0 := by omega
    obtain rfl : m = 0 := by omega
    have h1 : R.2.2 = 0 := by rw [HR.out]
    rw [h1]
    clear hdo hc HCHK HCL h1
    go_enter Try.func55, Try.ntmps55
    go_wp2_with fail
    refine HSET.out.mono ?_
    rintro e W2 ⟨⟨v, rfl⟩, hS2, hg2, -, hB2⟩
    have HF2 : Aside0 (DSt W2 base g R.1 R.2.1 ∧ BB base g w W2) := ⟨by
     rw [HR.out]
     refine ⟨⟨_, _, P, hg2, hPg, hS2, Kd.S_nil _ _ _ _ _⟩, (BB.of_below ⟨HBL.out.os, HBL.out.tape, HBL.out.output, HBL.out.size, fun k hk => HBL.out.block k (by omega)⟩).trans hB2⟩⟩
    clear hS2 hg2 hB2
    go_wp2_with fail
    go_ret
    exact ⟨rfl, HF2.out⟩
  | false =>
   rw [if_neg (show ¬ (false = true) by decide)] at hdo
   obtain ⟨e, he⟩ : ∃ e, chkW n0 z1 m = e := ⟨_, rfl⟩
   rw [he] at hdo HCHK
   have HE := Lib.hid he
   have q0 : W1.cell? ⟨g, 0, none⟩ = some (.slice A0 n0 c0) := blk_cell HG1.out 0
   have q1 : W1.cell? ⟨g, 1, none⟩ = some (.slice A1 n1 c1) := blk_cell HG1.out 1
   clear HSET he
   go_enter Try.func55, Try.ntmps55
   go_wp2_with fail
   have hbd : Below W1.heap.size W1 W1.drew := below_drew (Below.refl W1.heap.size W1)
   have p0 : W1.drew.cell? ⟨g, 0, none⟩ = some (.slice A0 n0 c0) := q0
   have p1 : W1.drew.cell? ⟨g, 1, none⟩ = some (.slice A1 n1 c1) := q1
   have p2 : W1.drew.cell? ⟨w.heap.size, 0, none⟩ = some (.bool false) := y0
   have p3 : W1.drew.cell? ⟨w.heap.size, 1, none⟩ = some (.int .i64 z1) := y1
   have p4 : W1.drew.cell? ⟨w.heap.size, 2, none⟩ = some (.slice A2 m c2) := y2
   have HBD := Aside0.mk hbd
   clear hbd q0 q1 y0 y1 y2
   refine wp_region_still_tail 4 (by kernel_rfl) (by kernel_rfl) ?_
   simp only [List.take_succ_cons, List.take_zero, List.drop_succ_cons, List.drop_zero]
   change wpStill _ _ W1.drew (fun a' => wpList _ _ _ _ a' W1.drew) _ _
   generalize W1.drew = W2 at p0 p1 p2 p3 p4 HBD ⊢
   repeat still_step
   refine wpStill_nil ?_
   go_wp2_with fail
   refine (HCHK.out W2 (by rw [← HSZ.out]; exact HBD.out)).mono ?_
   rintro r W3 ⟨rfl, hb3⟩
   have HB3 := Aside0.mk (HBD.out.trans (hb3.mono HBD.out.size))
   have HG3 := Aside0.mk (blk_below HG1.out HB3.out)
   have HX3 := Aside0.mk (blk_below HXN.out HB3.out)
   have HS03 := Aside0.mk (Kd.S_below HS0.out HB3.out)
   have HS13 := Aside0.mk (Kd.S_below HS1.out HB3.out)
   have HBB : Aside0 (Below base w W3) := ⟨Below.trans ⟨HBL.out.os, HBL.out.tape, HBL.out.output, HBL.out.size, fun k hk => HBL.out.block k (by omega)⟩ (HB3.out.mono (by have := HBL.out.size; omega))⟩
   have q1 : W3.cell? ⟨g, 1, none⟩ = some (.slice A1 n1 c1) := blk_cell HG3.out 1
   have y2 : W3.cell? ⟨w.heap.size, 2, none⟩ = some (.slice A2 m c2) := blk_cell HX3.out 2
   clear hb3 p0 p1 p2 p3 p4 HBD
   by_cases hc : e ≠ 0
   ·
    rw [if_pos hc] at hdo
    have HR := Lib.hid hdo
    have H1 : Aside0 (R.2.2 = e) := ⟨by rw [HR.out]⟩
    have HRET : Aside0 (DSt W3 base g R.1 R.2.1) := ⟨by
     rw [HR.out]
     exact ⟨_, _, P, HG3.out, hPg, HS03.out, Kd.S_mono HS13.out (fun _ hk => hk.1)⟩⟩
    have he1 : (e != 0) = true := bne_iff_ne.mpr hc
    clear hdo HCL hc
    go_wp2_with fail
    go_ret
    exact ⟨by rw [H1.out]; rfl, HRET.out, BB.of_below HBB.out⟩
   ·
    rw [if_neg hc] at hdo
    obtain rfl : e = 0 := by omega
    by_cases hc2 : n1 = 4096
    ·
     rw [if_pos hc2] at hdo
     have HR := Lib.hid hdo
     have H1 : Aside0 (R.2.2 = 51) := ⟨by rw [HR.out]⟩
     have HRET : Aside0 (DSt W3 base g R.1 R.2.1) := ⟨by
      rw [HR.out]
      exact ⟨_, _, P, HG3.out, hPg, HS03.out, Kd.S_mono HS13.out (fun _ hk => hk.1)⟩⟩
     subst hc2
     clear hdo HCL hc
     go_wp2_with fail
     go_ret
     exact ⟨by rw [H1.out]; rfl, HRET.out, BB.of_below HBB.out⟩
    ·
     rw [if_neg hc2] at hdo
     have HR := Lib.hid hdo
     have H1 : Aside0 (R.2.2 = 0) := ⟨by rw [HR.out]⟩
     have hd4 : ((n1 : Int) == 4096) = false := beq_eq_false_iff_ne.mpr (by omega)
     clear hdo hc
     go_wp2_with fail
     refine (HCL.out W3 (by rw [← HSZ.out]; exact HB3.out)).mono ?_
     rintro r W4 ⟨v4, rfl, ho4, hb4⟩
     obtain ⟨A4, c4, rfl⟩ := Kd.R_slice ho4
     have hx4 := blk_below HX3.out hb4
     have hg4 := blk_below HG3.out hb4
     have hgw : w.heap.size ≠ g := by omega
     have f2 : ∀ i, W4.frozen? ⟨w.heap.size, i, none⟩ = false := fun i => blk_frozen hx4 i
     have c42 : W4.cell? ⟨w.heap.size, 2, none⟩ = some (.slice A2 m c2) := blk_cell hx4 2
     have x5 := blk_put (cs' := #[.bool false, .int .i64 z1, .slice A4 x.f2.length c4]) hx4 2 (.slice A4 x.f2.length c4) rfl
     have g5 := blk_far hg4 (p := ⟨w.heap.size, 2, none⟩) (Ne.symm hgw) (.slice A4 x.f2.length c4)
     have s05 := Kd.S_set (Kd.S_below HS03.out hb4) hx4 (by decide) 2 (.slice A4 x.f2.length c4)
     have hxm : x = ⟨false, z1, x.f2⟩ := by rw [← HB.out, ← HZ1.out]
     have hsz4 := hb4.size
     have hsz3 := HB3.out.size
     have hA4 := Kd.R_base ho4
     have hA4l := Kd.R_lt ho4
     have ho5 := Kd.R_far (p := ⟨w.heap.size, 2, none⟩) (Kd.R_mono (Kd.R_bound (Kd.R_tight rfl ho4)) (ok' := fun k => some k = (Value.slice A4 x.f2.length c4).ownBlock ∧ k ≠ w.heap.size) (fun k hk => ⟨hk.1, fun he => by have := hk.2.1; have := HSZ.out; omega⟩)) (fun _ hk => hk.2) (.slice A4 x.f2.length c4)
     have s15 := Kd.S_far (p := ⟨w.heap.size, 2, none⟩) (Kd.S_mono (Kd.S_below HS13.out hb4) (ok' := fun k => (¬ P k ∧ ¬ some k = (Value.slice A4 x.f2.length c4).ownBlock) ∧ k ≠ w.heap.size) (fun k hk => ⟨⟨hk.1, fun he => by have := hA4 k he.symm; have := hk.2; have := HSZ.out; omega⟩, by have := hk.2; omega⟩)) (fun _ hk => hk.2) (.slice A4 x.f2.length c4)
     obtain ⟨W6, hW6⟩ : ∃ W, (W4.setCell ⟨w.heap.size, 2, none⟩ (.slice A4 x.f2.length c4)).drew = W := ⟨_, rfl⟩
     have hb46 : Below W1.heap.size W1 W4 := HB3.out.trans (hb4.mono HB3.out.size)
     have HB5 : Aside0 (Below base w W6) := ⟨by
      rw [← hW6]
      exact below_drew (((HBB.out.trans (hb4.mono (by have := HBB.out.size; omega)))).setCell (p := ⟨w.heap.size, 2, none⟩) hbase _)⟩
     have HSZ5 : Aside0 (w.heap.size + 1 ≤ W6.heap.size) := ⟨by rw [← hW6]; show _ ≤ (W4.setCell _ _).heap.size; have := HSZ.out; simp; omega⟩
     have X5 : Aside0 (W6.heap[w.heap.size]? = some (.cells #[.bool false, .int .i64 z1, .slice A4 x.f2.length c4] 57 (0, 0))) := ⟨by rw [← hW6]; exact x5⟩
     have G5 : Aside0 (W6.heap[g]? = some (.cells #[.slice A0 n0 c0, .slice A1 n1 c1] 58 (0, 0))) := ⟨by rw [← hW6]; exact g5⟩
     have S05 : Aside0 (Kd.S (Kd.slice 5 (Kd.int .u8)) 22 W6 base P (.slice A0 n0 c0) secs) := ⟨by rw [← hW6]; exact Kd.S_drew s05⟩
     have S15 : Aside0 (Kd.S k57 57 W6 base (fun k => (¬ P k ∧ ¬ some k = (Value.slice A4 x.f2.length c4).ownBlock) ∧ k ≠ w.heap.size) (.slice A1 n1 c1) cache) := ⟨by rw [← hW6]; exact Kd.S_drew s15⟩
     have HMX : Aside0 (k57.M W6 base (fun k => some k = (Value.slice A4 x.f2.length c4).ownBlock) x [.bool false, .int .i64 z1, .slice A4 x.f2.length c4]) := ⟨by
      have hq := k57_mkM W6 base (fun k => some k = (Value.slice A4 x.f2.length c4).ownBlock) x (v2 := .slice A4 x.f2.length c4) (by rw [← hW6]; exact Kd.R_lower (Kd.R_mono (Kd.R_drew ho5) (fun _ hk => hk.1)) (by have := HB3.out.size; have := HSZ.out; omega))
      rw [HB.out, HZ1.out] at hq
      exact hq⟩
     have HAK : Aside0 (∀ k, some k = (Value.slice A4 x.f2.length c4).ownBlock → ¬ P k ∧ some k ≠ (Value.slice A1 n1 c1).ownBlock) := ⟨fun k hk => ⟨fun h => by have := hPl k h; have := hA4 k hk.symm; have := HSZ.out; omega, fun e => ((Kd.S_R S15.out).1 k e.symm).1.2 hk⟩⟩
     have HPL := Aside0.mk hPl
     have f42 := f2 2
     have HW6 := Aside0.mk hW6
     clear hxm hsz4 hsz3 hA4 hA4l ho5 s15 s05 x5 g5 hb46 hx4 hg4 ho4 hb4 hPl q1 y2 hW6
     go_wp2_with fail
     refine start_ (n := 11) (S := fun w' => w'.cell? ⟨g, 0, none⟩ = some (.slice A0 n0 c0) ∧ w'.cell? ⟨g, 1, none⟩ = some (.slice A1 n1 c1) ∧ w'.cell? ⟨w.heap.size, 0, none⟩ = some (.bool false) ∧ w'.cell? ⟨w.heap.size, 1, none⟩ = some (.int .i64 z1) ∧ w'.cell? ⟨w.heap.size, 2, none⟩ = some (.slice A4 x.f2.length c4)) (ds := [10]) #[false, false, false, false, false, false, false, false, false, false, false] (by kernel_rfl) rfl rfl (by rw [HW6.out]; exact ⟨(blk_cell G5.out 0).trans rfl, (blk_cell G5.out 1).trans rfl, (blk_cell X5.out 0).trans rfl, (blk_cell X5.out 1).trans rfl, (blk_cell X5.out 2).trans rfl⟩) (fun hHeld => ?_)
     rw [HW6.out] at hHeld ⊢
     clear c42 f2 f42
     refine pure_ (i := 0) (N := some 37) (v := ?_) (a' := ?_) #[true, false, false, false, false, false, false, false, false, false, false] rfl rfl (by kernel_rfl) (fun _ _ _ h => h) (Or.inl ⟨by rfl, ?_⟩) ?_ ?_
     rotate_left
     ·
      intro w'
      go_simp
      with_reducible rfl
     rotate_left
     ·
      simp only [Act.put, List.setIfInBounds_toArray, List.set_cons_zero, List.set_cons_succ, i64_w, i32_w]
      rfl
     refine pure_ (i := 1) (N := some 38) (v := ?_) (a' := ?_) #[true, true, false, false, false, false, false, false, false, false, false] rfl rfl (by kernel_rfl) (fun _ _ _ h => h) (Or.inl ⟨by rfl, ?_⟩) ?_ ?_
     rotate_left
     ·
      intro w'
      go_simp
      with_reducible rfl
     rotate_left
     ·
      simp only [Act.put, List.setIfInBounds_toArray, List.set_cons_zero, List.set_cons_succ, i64_w, i32_w]
      rfl
     refine pure_ (i := 2) (N := some 39) (v := ?_) (a' := ?_) #[true, true, true, false, false, false, false, false, false, false, false] rfl rfl (by kernel_rfl) (fun _ _ _ h => h) (Or.inl ⟨by rfl, ?_⟩) ?_ ?_
     rotate_left
     ·
      intro w'
      go_simp
      with_reducible rfl
     rotate_left
     ·
      simp only [Act.put, List.setIfInBounds_toArray, List.set_cons_zero, List.set_cons_succ, i64_w, i32_w]
      rfl
     refine pure_ (i := 3) (N := some 40) (v := ?_) (a' := ?_) #[true, true, true, true, false, false, false, false, false, false, false] rfl rfl (by kernel_rfl) (fun _ _ _ h => h) (Or.inl ⟨by rfl, ?_⟩) ?_ ?_
     rotate_left
     ·
      intro w'
      go_simp
      with_reducible rfl
     rotate_left
     ·
      simp only [Act.put, List.setIfInBounds_toArray, List.set_cons_zero, List.set_cons_succ, i64_w, i32_w]
      rfl
     refine take_ (i := 4) (N := some 41) (v := ?_) (a' := ?_) #[true, true, true, true, true, false, false, false, false, false, false] rfl rfl (by kernel_rfl) (fun _ _ _ h => h) (Or.inl ⟨by rfl, ?_⟩) hHeld ?_ ?_
     rotate_left
     ·
      rintro w' ⟨s0, s1, s2, s3, s4⟩
      go_simp
      with_reducible rfl
     rotate_left
     ·
      simp only [Act.put, List.setIfInBounds_toArray, List.set_cons_zero, List.set_cons_succ, i64_w, i32_w]
      rfl
     refine take_ (i := 5) (N := some 42) (v := ?_) (a' := ?_) #[true, true, true, true, true, true, false, false, false, false, false] rfl rfl (by kernel_rfl) (fun _ _ _ h => h) (Or.inl ⟨by rfl, ?_⟩) hHeld ?_ ?_
     rotate_left
     ·
      rintro w' ⟨s0, s1, s2, s3, s4⟩
      go_simp
      with_reducible rfl
     rotate_left
     ·
      simp only [Act.put, List.setIfInBounds_toArray, List.set_cons_zero, List.set_cons_succ, i64_w, i32_w]
      rfl
     refine one_ (i := 6) (N := some 43) #[true, true, true, true, true, true, true, false, false, false, false] rfl rfl (by kernel_rfl) (by decide) (fun K hK => ?_)
     refine value_ (w1 := ?_) (v := ?_) (by rfl) rfl ?_ ?_
     rotate_left 2
     ·
      go_simp
      constructor
      ·
       rfl
      ·
       rfl
     refine hK.out _ _ ⟨(blk_cell (blk_alloc G5.out _) 0).trans rfl, (blk_cell (blk_alloc G5.out _) 1).trans rfl, (blk_cell (blk_alloc X5.out _) 0).trans rfl, (blk_cell (blk_alloc X5.out _) 1).trans rfl, (blk_cell (blk_alloc X5.out _) 2).trans rfl⟩ (fun hHeld => ?_)
     clear hK K
     refine norm_ (a' := ?_) ?_ ?_
     rotate_left
     ·
      show Act.put _ (some 43) _ = _
      simp only [Act.put, List.setIfInBounds_toArray, List.set_cons_zero, List.set_cons_succ, i64_w, i32_w]
      rfl
     refine one_ (i := 7) (N := some 44) #[true, true, true, true, true, true, true, true, false, false, false] rfl rfl (by kernel_rfl) (by decide) (fun K hK => ?_)
     refine Kd.S_append_step k57 (w0 := w) base (by rfl) (.tmp 41) (.tmp 43) 53 57 (.agg #[.bool false, .int .i64 0, .slice none 0 0]) 40 rfl Try.underlying53 info57 rfl (by decide) (by omega) (.slice A1 n1 c1) cache x [.bool false, .int .i64 z1, .slice A4 x.f2.length c4] (fun k => ¬ P k) (fun k => some k = (Value.slice A4 x.f2.length c4).ownBlock) rfl rfl ?aP ?aK ?aF ?aO ?aB ?aS ?aL ?_
     (case aP => exact HMX.out)
     (case aK => exact HAK.out)
     (case aF => exact fun k hk h => by have := HPL.out k h; have := HSZ5.out; omega)
     (case aO => exact Kd.S_mono S15.out (fun _ hk => hk.1))
     (case aB => exact HB5.out)
     (case aS => have := HSZ5.out; omega)
     (case aL => rw [HN1.out]; omega)
     intro v6 w6 ho6 hb6 hg6 hat6
     obtain ⟨A6, c6, rfl⟩ := Kd.S_slice ho6
     have hrow6 : ∀ k, (Value.slice A1 n1 c1).ownBlock = some k → ¬ P k := fun k hk => ((Kd.S_R S15.out).1 k hk).1.1
     have G6 := Aside0.mk (blk_grown G5.out hg6 (Kd.S_ne S15.out G5.out (by decide)))
     have HS6 := Aside0.mk ho6
     have HB6 := Aside0.mk hb6
     have HS06 := Aside0.mk (Kd.S_grown S05.out hg6 (fun k hk e => hrow6 k e.symm hk))
     have hX6 : w6.heap[w.heap.size]? = some (.cells #[.bool false, .int .i64 z1, .slice A4 x.f2.length c4] 57 (0, 0)) := (hg6.block _ (blk_lt X5.out) (fun e => ((Kd.S_R S15.out).1 _ e.symm).2 rfl)).trans X5.out
     clear ho6 hb6 hg6 hat6 hrow6
     refine hK.out _ _ ⟨(blk_cell G6.out 0).trans rfl, (blk_cell G6.out 1).trans rfl, (blk_cell hX6 0).trans rfl, (blk_cell hX6 1).trans rfl, (blk_cell hX6 2).trans rfl⟩ (fun hHeld => ?_)
     clear hK K
     have f6 : ∀ i, w6.frozen? ⟨g, i, none⟩ = false := fun i => blk_frozen G6.out i
     have c61 : w6.cell? ⟨g, 1, none⟩ = some (.slice A1 n1 c1) := (blk_cell G6.out 1).trans rfl
     refine norm_ (a' := ?_) ?_ ?_
     rotate_left
     ·
      show Act.put _ (some 44) _ = _
      simp only [Act.put, List.setIfInBounds_toArray, List.set_cons_zero, List.set_cons_succ, i64_w, i32_w]
      rfl
     refine pure_ (i := 8) (N := some 45) (v := ?_) (a' := ?_) #[true, true, true, true, true, true, true, true, true, false, false] rfl rfl (by kernel_rfl) (fun _ _ _ h => h) (Or.inl ⟨by rfl, ?_⟩) ?_ ?_
     rotate_left
     ·
      intro w'
      go_simp
      with_reducible rfl
     rotate_left
     ·
      simp only [Act.put, List.setIfInBounds_toArray, List.set_cons_zero, List.set_cons_succ, i64_w, i32_w]
      rfl
     refine pure_ (i := 9) (N := some 46) (v := ?_) (a' := ?_) #[true, true, true, true, true, true, true, true, true, true, false] rfl rfl (by kernel_rfl) (fun _ _ _ h => h) (Or.inl ⟨by rfl, ?_⟩) ?_ ?_
     rotate_left
     ·
      intro w'
      go_simp
      with_reducible rfl
     rotate_left
     ·
      simp only [Act.put, List.setIfInBounds_toArray, List.set_cons_zero, List.set_cons_succ, i64_w, i32_w]
      rfl
     refine last_ (i := 10) (N := none) #[true, true, true, true, true, true, true, true, true, true, true] rfl rfl (by kernel_rfl) (by decide) (fun K hK => ?_)
     refine skip_ (w1 := ?_) (by rfl) rfl ?_ ?_
     rotate_left
     ·
      go_simp
      rfl
     refine hK.out _ _ ?_
     clear hK K
     refine done_ (by kernel_rfl) ?_
     have HF : Aside0 (DSt (w6.setCell ⟨g, 1, none⟩ (.slice A6 (cache ++ [x]).length c6)) base g R.1 R.2.1) := ⟨by
      rw [HR.out]
      exact ⟨_, _, P, blk_put (cs' := #[.slice A0 n0 c0, .slice A6 (cache ++ [x]).length c6]) G6.out 1 (.slice A6 (cache ++ [x]).length c6) rfl, hPg, Kd.S_set HS06.out G6.out (by decide) 1 _, Kd.S_set HS6.out G6.out (by decide) 1 _⟩⟩
     have HBF := Aside0.mk ((BB.of_below (g := g) HB6.out).setCell 1 (.slice A6 (cache ++ [x]).length c6))
     rw [show (cache ++ [x]).length = cache.length + 1 from by simp] at HF HBF
     clear f6 c61 hX6
     go_wp2_with fail
     go_ret
     exact ⟨by rw [H1.out]; rfl, HF.out, HBF.out⟩
 exact hent
end Go.Proofs.Ytkdaeleolomdkaa.D
