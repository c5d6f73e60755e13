/- What the print's words and the walks are, as far as this claim names them. -/
import Derived.Test.YtgmkgobapeencaaYWalRef
import Derived.Test.YtgmkgobapeencaaYS27
import Derived.Test.YtgmkgobapeencaaYS2
set_option linter.unusedVariables false
set_option linter.unusedSimpArgs false
namespace Go.Proofs.Ytgmkgobapeencaa.WalFill
open Go.RowKit Go.Proofs.Ytgmkgobapeencaa.S Go.Proofs.YtgmkgobapeencaaW.PrintWords Go.Proofs.YtgmkgobapeencaaW.PrintLast RefSeal RefPut WalMath WalEv WalLog WalMore WalRef
structure Filled (segs : List (List Int)) (next : Int) (rs : List (Int × List Int)) : Prop where
 ok : Okt segs
 log : logS segs next = some rs
 few : rs.length ≤ 30
 low : next ≤ 1000 + rs.length
theorem fill_l0 (l : List (List Int)) (hl : ∀ d ∈ l, octs d) (hn : l.length ≤ 4611686018427387904) : ∀ (n i : Nat) (segs : List (List Int)) (next : Int) (rs : List (Int × List Int)), 30 - i = n → i ≤ 30 → i ≤ l.length → Okt segs → logS segs next = some rs → rs.length ≤ i → next ≤ 1000 + rs.length →
  ∃ segs' next' rs', Ev (fun k => fanlightlaw06_filled.l0 k l (rs.map rowD) (i : Int) segs next) (segs', next', rs'.map rowD, true) ∧ Filled segs' next' rs'
 | n, i, segs, next, rs, hin, hi30, hil, hok, hlog, hrs, hnx => by
  obtain ⟨h0, h1, h2⟩ := log_range hlog
  by_cases hlt : i < l.length
  ·
   by_cases h30 : i < 30
   ·
    obtain ⟨n, rfl⟩ : ∃ m, n = m + 1 := ⟨n - 1, by omega⟩
    have hlen := (log_rows segs next rs hok hlog).1
    obtain ⟨d, hd⟩ : ∃ d, l[i] = d := ⟨_, rfl⟩
    have hmem : d ∈ l := by rw [← hd]; exact List.getElem_mem _
    have hrd : rd_L1 l (i : Int) = d := by
     unfold rd_L1
     rw [Int.toNat_natCast, List.getD_eq_getElem?_getD, List.getElem?_eq_getElem hlt, ← hd]
     rfl
    have w : wrap64 ((i : Int) + 1) = ((i + 1 : Nat) : Int) := (wI (by omega) (by omega)).trans (by omega)
    by_cases hd4 : 400 < d.length
    ·
     have ha : appA segs next d = ([], 0, 0, 5) := by
      unfold appA
      rw [hlog, Option.isSome_some, if_pos rfl, if_pos hd4]
     obtain ⟨segs', next', rs', hE, hF⟩ := fill_l0 l hl hn n (i + 1) segs next rs (by omega) (by omega) (by omega) hok hlog (by omega) hnx
     refine ⟨segs', next', rs', ?_, hF⟩
     refine Ev.step (fun k => rfl) ?_
     simp only [fanlightlaw06_filled.l0, if_pos (show (i : Int) < (l.length : Int) by omega), decide_eq_true (show (i : Int) < 30 by omega)]
     refine Ev.step (fun k => rfl) ?_
     simp only [fanlightlaw06_filled.j1, if_true, if_pos (show (0 : Int) ≤ (i : Int) by omega), if_pos (show (i : Int) < (l.length : Int) by omega), hrd]
     have := app_is hok next d
     rw [ha] at this
     refine Ev.bind this ?_
     simp only [if_pos (show (d.length : Int) > 400 by omega), fanlightlaw06_num.f, Option.bind_some, if_true, w]
     exact hE
    ·
     obtain ⟨a1, a2, a3, a4⟩ := app_log hok hlog (hl d hmem) (show d.length ≤ 400 by omega) (show next < 1099511627776 by omega) (show segs.length < 64 by omega)
     have hok' := app_ok hok next (hl d hmem) (show d.length ≤ 1048576 by omega)
     obtain ⟨A, hA⟩ : ∃ A, appA segs next d = A := ⟨_, rfl⟩
     rw [hA] at a1 a2 a3 a4 hok'
     obtain ⟨as_, an, ai, ac⟩ := A
     dsimp only at a1 a2 a3 a4 hok'
     subst a1 a2
     obtain ⟨segs', next', rs', hE, hF⟩ := fill_l0 l hl hn n (i + 1) as_ (next + 1) (rs ++ [(next, d)]) (by omega) (by omega) (by omega) hok' a3 (by simp; omega) (by simp; omega)
     refine ⟨segs', next', rs', ?_, hF⟩
     refine Ev.step (fun k => rfl) ?_
     simp only [fanlightlaw06_filled.l0, if_pos (show (i : Int) < (l.length : Int) by omega), decide_eq_true (show (i : Int) < 30 by omega)]
     refine Ev.step (fun k => rfl) ?_
     simp only [fanlightlaw06_filled.j1, if_true, if_pos (show (0 : Int) ≤ (i : Int) by omega), if_pos (show (i : Int) < (l.length : Int) by omega), hrd]
     have := app_is hok next d
     rw [hA] at this
     refine Ev.bind this ?_
     have c : (rs.map rowD).length < 4398046511104 := by rw [List.length_map]; omega
     simp only [if_neg (show ¬ (d.length : Int) > 400 by omega), fanlightlaw06_num.f, Option.bind_some, if_true, if_pos c, w]
     rw [List.map_append] at hE
     exact hE
   ·
    refine ⟨segs, next, rs, ?_, hok, hlog, by omega, hnx⟩
    refine Ev.step (fun k => rfl) ?_
    simp only [fanlightlaw06_filled.l0, if_pos (show (i : Int) < (l.length : Int) by omega), decide_eq_false (show ¬ (i : Int) < 30 by omega)]
    refine Ev.step (fun k => rfl) ?_
    simp only [fanlightlaw06_filled.j1, Bool.false_eq_true, if_false]
    exact Ev.now _
  ·
   refine ⟨segs, next, rs, ?_, hok, hlog, by omega, hnx⟩
   refine Ev.step (fun k => rfl) ?_
   simp only [fanlightlaw06_filled.l0, if_neg (show ¬ (i : Int) < (l.length : Int) by omega)]
   refine Ev.step (fun k => rfl) ?_
   simp only [fanlightlaw06_filled.j1, Bool.false_eq_true, if_false]
   exact Ev.now _
termination_by n => n
theorem fill_is (a : Int) (l : List (List Int)) (hl : ∀ d ∈ l, octs d) (hn : l.length ≤ 4611686018427387904) : ∃ segs next rs, Ev (fun k => fanlightlaw06_filled.f k a l) (segs, next, rs.map rowD, true) ∧ Filled segs next rs := by
 have b1 := Int.tmod_lt_of_pos a (show (0 : Int) < 1000 by decide)
 have b2 := Int.lt_tmod_of_pos a (show (0 : Int) < 1000 by decide)
 obtain ⟨n0, hn0, hn1, hn2⟩ : ∃ n0 : Int, wrap64 (1 + (Int.tmod (wrap64 ((Int.tmod a 1000) + 1000)) 1000)) = n0 ∧ 1 ≤ n0 ∧ n0 ≤ 1000 := by
  generalize Int.tmod a 1000 = u at b1 b2
  rw [wI (i := u + 1000) (by omega) (by omega)]
  have b3 := Int.tmod_lt_of_pos (u + 1000) (show (0 : Int) < 1000 by decide)
  have b4 := Int.tmod_nonneg (1000 : Int) (show 0 ≤ u + 1000 by omega)
  generalize Int.tmod (u + 1000) 1000 = v at b3 b4
  exact ⟨1 + v, wI (by omega) (by omega), by omega, by omega⟩
 have hlog : logS [] n0 = some [] := log_of hn1 (by omega) (by simp) rfl
 have := fill_l0 l hl hn 30 0 [] n0 [] rfl (by omega) (by omega) (fun s hs => by simp at hs) hlog (by simp) (by simp; omega)
 unfold fanlightlaw06_filled.f
 rw [hn0]
 exact this
end Go.Proofs.Ytgmkgobapeencaa.WalFill
namespace Go.Proofs.Ytgmkgobapeencaa.S
open Go.RowKit Go.Proofs.YtgmkgobapeencaaW.PrintWords Go.Proofs.YtgmkgobapeencaaW.PrintLast Go.Proofs.YtgmkgobapeencaaW.PrintMore
attribute [local go_sem] max2_int min2_int max_two min_two max_three min_three max_four min_four
def slices_ContainsFunc_byte_byte.f (l0 : List Int) : Option Bool := if l0.length ≤ 1099511627776 then some (l0.any fun x => x != 0) else none
theorem nonzero_calls (x : Int) (w : World) : Calls Try.prog 39 #[.int .u8 x] w fun e w' => e = .returned (.bool (x != 0)) ∧ w = w' := by
 go_enter Try.func39, Try.ntmps39
 go_wp2
 go_ret
 exact ⟨rfl, rfl⟩
set_option maxRecDepth 100000 in
set_option maxHeartbeats 2000000 in
theorem indexfunc1 (A0 : Option Addr) (c0 : Nat) (l0 : List Int) (w : World) (hr0 : Kd.C (Kd.int .u8) w A0 l0.length l0) (hlen : l0.length ≤ 1099511627776) :
  Calls Try.prog 52 #[.slice A0 l0.length c0, .func (.func 39) #[] #[]] w fun e w' => (∃ i : Int, e = .returned (.int .i64 i) ∧ (0 ≤ i ↔ (l0.any fun x => x != 0) = true)) ∧ w = w' := by
 have HR := Aside0.mk hr0
 have HL := Aside0.mk hlen
 obtain ⟨n, hn⟩ : ∃ n, l0.length = n := ⟨_, rfl⟩
 have HN := Lib.hid hn
 have hnb : n ≤ 1099511627776 := by rw [← hn]; exact hlen
 rw [hn]
 clear hr0 hlen hn
 go_enter Try.func52, Try.ntmps52
 go_wp2_with fail
 go_loop [8] (fun i => ∃ k : Nat, k ≤ n ∧ i = .int .i64 k ∧ Aside0 (∀ x ∈ l0.take k, x = 0)) (fun i => n - (intOf i).toNat)
 case atStart => exact ⟨0, by omega, rfl, ⟨by simp⟩⟩
 case round =>
  obtain ⟨k, hk, rfl, HZ⟩ := hrel
  by_cases hlt : k < n
  ·
   obtain ⟨ad, rfl, hcell⟩ := Kd.at_int HR.out (k : Int) (by omega) (by have := HN.out; omega)
   simp only [Int.toNat_natCast] at hcell
   have hx : l0.take (k + 1) = l0.take k ++ [rd l0 (k : Int)] := by
    have hk' : k < l0.length := by have := HN.out; omega
    rw [List.take_succ_eq_append_getElem hk']
    simp [rd, hk']
   obtain ⟨x, hxe⟩ : ∃ x, rd l0 (k : Int) = x := ⟨_, rfl⟩
   rw [hxe] at hcell hx
   have HX := Lib.hid hx
   clear hx hxe
   by_cases hz : x = 0
   ·
    subst hz
    have hb : ((0 : Int) != 0) = false := rfl
    go_wp2_with (go_at_call 39; refine (nonzero_calls 0 _).mono ?_; rintro e w2 ⟨rfl, rfl⟩)
    go_round
    case rel =>
     refine ⟨k + 1, by omega, by go_num, ⟨fun y hy => ?_⟩⟩
     rw [HX.out] at hy
     rcases List.mem_append.1 hy with hy | hy
     ·
      exact HZ.out y hy
     ·
      exact List.mem_singleton.1 hy
    case measure => simp [intOf]; omega
   ·
    have hb : (x != 0) = true := bne_iff_ne.2 hz
    go_wp2_with (go_at_call 39; refine (nonzero_calls x _).mono ?_; rintro e w2 ⟨rfl, rfl⟩)
    go_ret
    refine ⟨⟨(k : Int), rfl, ?_⟩, rfl⟩
    refine ⟨fun _ => List.any_eq_true.2 ⟨x, ?_, hb⟩, fun _ => by omega⟩
    have : x ∈ l0.take (k + 1) := by rw [HX.out]; simp
    exact List.mem_of_mem_take this
  ·
   obtain rfl : k = n := by omega
   go_wp2
   go_ret
   refine ⟨⟨-1, rfl, ⟨fun h => by omega, fun h => ?_⟩⟩, rfl⟩
   obtain ⟨x, hx, hx2⟩ := h
   have hm : x ∈ l0.take k := by rw [List.take_of_length_le (by have := HN.out; omega)]; exact hx
   exact absurd (HZ.out x hm) hx2
theorem slices_ContainsFunc_byte_byte.calls (A0 : Option Addr) (c0 : Nat) (l0 : List Int) (r : Bool) (w : World) (hr0 : Kd.C (Kd.int .u8) w A0 l0.length l0) (hc0 : l0.length ≤ c0) (h : slices_ContainsFunc_byte_byte.f l0 = some r) :
  Calls Try.prog 38 #[.slice A0 l0.length c0, .func (.func 39) #[] #[]] w fun e w' => e = .returned (.bool r) ∧ w = w' := by
 unfold slices_ContainsFunc_byte_byte.f at h
 split at h
 case isFalse => cases h
 rename_i hl
 injection h with h
 have HC := Aside0.mk (indexfunc1 A0 c0 l0 w hr0 hl)
 have HH := Lib.hid h
 clear hr0 hc0 h hl
 go_enter Try.func38, Try.ntmps38
 go_wp2_with (go_at_call 52; refine HC.out.mono ?_; rintro e w2 ⟨⟨i, rfl, hi⟩, rfl⟩; have HI := Aside0.mk hi; clear hi)
 go_ret
 refine ⟨?_, rfl⟩
 have hi := HI.out
 rw [HH.out] at hi
 cases r with
 | false =>
  have hd : decide (0 ≤ i) = false := decide_eq_false (fun h => by have := hi.1 h; cases this)
  rw [hd]
  rfl
 | true =>
  have hd : decide (0 ≤ i) = true := decide_eq_true (hi.2 rfl)
  rw [hd]
  rfl
end Go.Proofs.Ytgmkgobapeencaa.S
