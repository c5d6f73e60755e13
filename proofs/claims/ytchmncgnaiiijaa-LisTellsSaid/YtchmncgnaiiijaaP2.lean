-- MADE by wip/tools/pr2.py for this claim
import Derived.Test.YtchmncgnaiiijaaP0
namespace Go.Proofs.Ytchmncgnaiiijaa.P
open Go.RowKit Go.Proofs.YtchmncgnaiiijaaW.PrintWords Go.Proofs.YtchmncgnaiiijaaW.PrintLast Go.Proofs.YtchmncgnaiiijaaW.PrintMore
attribute [local go_sem] max2_int min2_int max_two min_two max_three min_three max_four min_four   -- for this text's walks alone
set_option linter.unusedVariables false
set_option linter.unusedSimpArgs false

-- GIVENPART
/-! ### lis_lengths: function 45 (mine) -/
open Go.Shelf
def bsAt (h : List Int) (x : Int) : Nat := (h.takeWhile (fun y => decide (x < y))).length
def Falls : List Int → Prop
  | [] => True
  | x :: xs => (∀ y ∈ xs, y < x) ∧ Falls xs

theorem len1_lt (a b : Int) (h : b < a) (w : World) : Calls Try.prog 58 #[.int .i64 a, .int .i64 b] w fun e w' => e = .returned (.int .i64 (-1)) ∧ w = w' := by
  go_enter Try.func58, Try.ntmps58
  go_wp2
  go_ret
  exact ⟨rfl, rfl⟩
theorem len1_ge (a b : Int) (h : a ≤ b) (w : World) : Calls Try.prog 58 #[.int .i64 a, .int .i64 b] w fun e w' => e = .returned (.int .i64 1) ∧ w = w' := by
  go_enter Try.func58, Try.ntmps58
  go_wp2
  go_ret
  exact ⟨rfl, rfl⟩

set_option maxHeartbeats 1000000 in
theorem bsf_calls (hs : List Int) (x : Int) (m : Nat) (A : Option Addr) (c : Nat) (hl : hs.length ≤ 256) (hm : m ≤ hs.length)
    (hlo : ∀ j, j < m → x < hs.getD j 0) (hhi : ∀ j, m ≤ j → j < hs.length → hs.getD j 0 ≤ x) (w : World)
    (hr : Kd.C (Kd.int .i64) w A hs.length hs) :
    Calls Try.prog 57 #[.slice A hs.length c, .int .i64 x, .func (.func 58) #[] #[]] w fun e w' => e = .returned (.tuple #[.int .i64 m, .bool false]) ∧ w = w' := by
  have H1 := Lib.hid hlo
  have H2 := Lib.hid hhi
  clear hlo hhi
  have HR := Aside0.mk hr
  clear hr
  go_enter Try.func57, Try.ntmps57
  go_wp2
  go_loop [9, 10] (fun i j => ∃ a b : Nat, a ≤ m ∧ m ≤ b ∧ b ≤ hs.length ∧ i = .int .i64 a ∧ j = .int .i64 b) (fun i j => (intOf j).toNat - (intOf i).toNat)
  case atStart => exact ⟨0, hs.length, by omega, hm, Nat.le_refl _, rfl, rfl⟩
  case round =>
    obtain ⟨a, b, ha, hb, hbl, rfl, rfl⟩ := hrel
    by_cases hlt : a < b
    · have hq1 : a ≤ (a + b) / 2 := by omega
      have hq2 : (a + b) / 2 < b := by omega
      obtain ⟨ad, e1, hcell⟩ := Kd.at_int HR.out (((a + b) / 2 : Nat) : Int) (by omega) (by omega)
      rw [Int.toNat_natCast] at hcell
      obtain ⟨y, hy⟩ : ∃ y, y = rd hs (((a + b) / 2 : Nat) : Int) := ⟨_, rfl⟩
      rw [← hy] at hcell
      have HY := Lib.hid hy
      clear hy
      subst e1
      by_cases hx : x < y
      · go_wp2_with (go_at_call 58; refine (len1_lt _ _ hx _).mono ?_; rintro e w' ⟨rfl, rfl⟩)
        go_round
        case rel => exact ⟨(a + b) / 2 + 1, b, by
          rcases Nat.lt_or_ge ((a + b) / 2) m with h | h
          · omega
          · have h2 := H2.out _ h (by omega)
            have h3 := HY.out
            simp only [rd, Int.toNat_natCast] at h3
            omega, hb, hbl, by go_num, rfl⟩
        case measure => simp [intOf]; omega
      · go_wp2_with (go_at_call 58; refine (len1_ge _ _ (by omega) _).mono ?_; rintro e w' ⟨rfl, rfl⟩)
        go_round
        case rel => exact ⟨a, (a + b) / 2, ha, by
          rcases Nat.lt_or_ge ((a + b) / 2) m with h | h
          · have h2 := H1.out _ h
            have h3 := HY.out
            simp only [rd, Int.toNat_natCast] at h3
            omega
          · exact h, by omega, rfl, rfl⟩
        case measure => simp [intOf]; omega
    · obtain rfl : a = m := by omega
      obtain rfl : a = b := by omega
      by_cases hlt2 : a < hs.length
      · obtain ⟨ad, e1, hcell⟩ := Kd.at_int HR.out (a : Int) (by omega) (by omega)
        rw [Int.toNat_natCast] at hcell
        have hy : rd hs (a : Int) ≤ x := by
          have := H2.out a (Nat.le_refl _) hlt2
          simpa [rd] using this
        obtain ⟨y, hy'⟩ : ∃ y, y = rd hs (a : Int) := ⟨_, rfl⟩
        rw [← hy'] at hcell hy
        clear hy'
        subst e1
        go_wp2_with (go_at_call 58; refine (len1_ge _ _ (by omega) _).mono ?_; rintro e w' ⟨rfl, rfl⟩)
        go_ret2
        exact ⟨rfl, rfl⟩
      · go_wp2
        go_ret2
        exact ⟨rfl, rfl⟩

attribute [local go_sem] Oper.semAt_some

/-- An index, held within the length. -/
def ixm (a n : Nat) : Nat := a % n

/-- What has come when k rounds are over: the last k, from behind. -/
def bwd (l : List Int) (k : Nat) : List (Nat × Int) := (List.range k).map fun j => (l.length - 1 - j, l.getD (l.length - 1 - j) 0)
theorem bwd_succ (l : List Int) (k : Nat) : bwd l (k + 1) = bwd l k ++ [(l.length - 1 - k, l.getD (l.length - 1 - k) 0)] := by simp [bwd, List.range_succ]
theorem bwd_length (l : List Int) (k : Nat) : (bwd l k).length = k := by simp [bwd]

/-- What a round keeps for the iterator: what lay below n₀, and the block that holds the slice. -/
structure KpB (n₀ Bs : Nat) (W W' : World) : Prop where
  bel : Below n₀ W W'
  box : W'.heap[Bs]? = W.heap[Bs]?
theorem KpB.refl (n₀ Bs : Nat) (W : World) : KpB n₀ Bs W W := ⟨Below.refl _ _, rfl⟩
theorem KpB.trans {n₀ Bs : Nat} {A B C : World} (h : KpB n₀ Bs A B) (k : KpB n₀ Bs B C) : KpB n₀ Bs A C := ⟨h.bel.trans k.bel, k.box.trans h.box⟩

set_option maxRecDepth 100000 in
set_option maxHeartbeats 2000000 in
theorem backward1_in (F : Fence) (n : Nat) (h7 : F.fn 62) (hro : F.round = none) (hn : 1 ≤ n) (l Bs n₀ : Nat) (A : Option Addr) (cap : Nat) (zs : List Int) (hreach : zs.length ≤ 256) (J Jx : List (Nat × Int) → World → Prop)
    (hY : ∀ pre x W, J pre W → pre.length < zs.length → YieldAt F (n - 1) Try.prog l #[.int .i64 (ixm x.1 zs.length : Int), .int .i64 x.2] W fun e W' =>
      (e = .returned (.bool true) ∧ J (pre ++ [x]) W' ∧ KpB n₀ Bs W W') ∨ (e = .returned (.bool false) ∧ Jx (pre ++ [x]) W'))
    (W : World) (hBs : Boxed W Bs 22 (.slice A zs.length cap)) (hb : ∀ ad, A = some ad → 0 < zs.length → ad.block < n₀) (hc : Aside0 (Kd.C (Kd.int .i64) W A zs.length zs)) (h0 : J [] W) :
    CallsIn F n Try.prog 62 #[.func (.yield l) #[] #[], .pointer (some ⟨Bs, 0, none⟩)] W fun e W' => (∃ v, e = .returned v) ∧
      ((∃ ys, ys = bwd zs zs.length ∧ J ys W') ∨ (∃ pre, (∃ k, k ≤ zs.length ∧ pre = bwd zs k) ∧ Jx pre W')) := by
  have hBs0 := hBs.cell
  have HBs := Lib.hid hBs
  clear hBs
  refine callsIn_of_wp Try.func62 rfl h7 ?_ hro
  simp only [Try.ntmps62, List.size_toArray, List.length_cons, List.length_nil, Nat.reduceAdd, Nat.reduceSub, Array.replicate_succ, Array.replicate_zero, List.push_toArray, List.append_toArray, List.nil_append, List.cons_append]
  gi_wp2
  gi_loopw [3] (fun i wr => ∃ k : Nat, k ≤ zs.length ∧ i = .int .i64 ((zs.length : Int) - 1 - k) ∧ J (bwd zs k) wr ∧ KpB n₀ Bs W wr)
    (fun i _ => (intOf i + 1).toNat)
  case atStart => exact ⟨0, Nat.zero_le _, by simp, h0, KpB.refl _ _ _⟩
  case round =>
    obtain ⟨k, hk, rfl, hJs, hnx⟩ := hrel
    have hBs' : wr.cell? ⟨Bs, 0, none⟩ = some (.slice A zs.length cap) := Boxed.cell (hnx.box.trans HBs.out)
    by_cases hlt : k < zs.length
    · obtain ⟨q, hq⟩ : ∃ q : Nat, zs.length - 1 - k = q := ⟨_, rfl⟩
      have hql : q < zs.length := by omega
      obtain ⟨ad, e1, hcell⟩ := Kd.at_int hc.out (q : Int) (by omega) (by omega)
      rw [Int.toNat_natCast] at hcell
      have hx : rd zs (q : Int) = zs.getD q 0 := by simp [rd]
      rw [hx] at hcell
      have hcx : wr.cell? (ad.add q) = some (.int .i64 (zs.getD q 0)) := (hnx.bel.cell (p := ad.add q) (by
        have := hb ad e1 (by omega)
        rw [show (ad.add q).block = ad.block from by unfold Addr.add; split <;> rfl]; exact this)).trans hcell
      obtain ⟨fn, tmps, assign, body, hy, hR⟩ := hY _ (q, zs.getD q 0) wr hJs (by rw [bwd_length]; exact hlt)
      dsimp only at hy
      rw [show ixm q zs.length = q from Nat.mod_eq_of_lt hql] at hy
      have hqe : (zs.length : Int) - 1 - k = q := by omega
      rw [hqe]
      subst e1
      clear hcell hx
      obtain ⟨y, hy'⟩ : ∃ y, y = zs.getD q 0 := ⟨_, rfl⟩
      rw [← hy'] at hcx hy hR
      have HY := Lib.hid hy'
      clear hy'
      have HQ := Lib.hid hq
      have HQE := Lib.hid hqe
      clear hq hqe
      gi_wp2
      refine hR.mono ?_
      rintro e W3 (⟨rfl, hJ3, hk3⟩ | ⟨rfl, hJx3⟩)
      · gi_wp2
        go_roundw
        case rel => exact ⟨k + 1, by omega, by have := HQE.out; simp; omega, by rw [bwd_succ, HQ.out, ← HY.out]; exact hJ3, hnx.trans hk3⟩
        case measure => simp [intOf]
      · gi_wp2
        refine bodyPost_ret (results_none rfl _ _ _) rfl ?_
        exact ⟨⟨_, rfl⟩, .inr ⟨_, ⟨k + 1, by omega, by rw [bwd_succ, HQ.out, ← HY.out]⟩, hJx3⟩⟩
    · obtain rfl : k = zs.length := by omega
      gi_wp2
      go_end0
      exact ⟨⟨_, rfl⟩, .inl ⟨_, rfl, hJs⟩⟩

set_option maxHeartbeats 1000000 in
theorem backward_in (F : Fence) (n : Nat) (h5 : F.fn 56) (hro : F.round = none) (a : Option Addr) (len cap : Nat) (w : World) :
    CallsIn F n Try.prog 56 #[.slice a len cap] w fun e w' => e = .returned (.func (.func 62) #[] #[.pointer (some ⟨w.heap.size, 0, none⟩)]) ∧ w' = w.alloc (.cells #[.slice a len cap] 22) := by
  refine callsIn_of_wp Try.func56 rfl h5 ?_ hro
  simp only [Try.ntmps56, List.size_toArray, List.length_cons, List.length_nil, Nat.reduceAdd, Nat.reduceSub, Array.replicate_succ, Array.replicate_zero, List.push_toArray, List.append_toArray, List.nil_append, List.cons_append]
  gi_wp2
  go_ret
  exact ⟨rfl, rfl⟩

theorem backward_stops (F : Fence) (n : Nat) (h8 : F.fn 62) (hro : F.round = none) (hn : 1 ≤ n) (Bs n₀ : Nat) (A : Option Addr) (cap : Nat) (zs : List Int) (hreach : zs.length ≤ 256) (w : World) 
    (hcell : Boxed w Bs 22 (.slice A zs.length cap)) (hb : ∀ ad, A = some ad → 0 < zs.length → ad.block < n₀) (hc : Kd.C (Kd.int .i64) w A zs.length zs) :
    SeqStopsK F n Try.prog 62 #[.pointer (some ⟨Bs, 0, none⟩)] (fun x : Nat × Int => #[Value.int .i64 (ixm x.1 zs.length : Int), Value.int .i64 x.2]) (KpB n₀ Bs) (fun ys => ys = bwd zs zs.length)
      (fun pre => ∃ k, k ≤ zs.length ∧ pre = bwd zs k) zs.length w := fun l J Jx W hW _ _ hY h0 =>
  backward1_in F n h8 hro hn l Bs n₀ A cap zs hreach J Jx hY W ((hW.block Bs hcell.lt).trans hcell) hb ⟨Kd.C_below hc hW⟩ h0


def putHead (h : List Int) (x : Int) : List Int := if bsAt h x = h.length then h ++ [x] else h.set (bsAt h x) x
def headsOf : List (Nat × Int) → List Int := List.foldl (fun h p => putHead h p.2) []
def outStep (n : Nat) (s : List Int × List Int) (p : Nat × Int) : List Int × List Int := (s.1.set (ixm p.1 n) ((bsAt s.2 p.2 : Int) + 1), putHead s.2 p.2)
def stateOf (n : Nat) (l : List (Nat × Int)) : List Int × List Int := l.foldl (outStep n) (List.replicate n 0, [])
theorem stateOf_snoc (n : Nat) (l : List (Nat × Int)) (p : Nat × Int) : stateOf n (l ++ [p]) = outStep n (stateOf n l) p := by simp [stateOf]
theorem Falls_getD {h : List Int} (hf : Falls h) : ∀ {i j : Nat}, i < j → j < h.length → h.getD j 0 < h.getD i 0 := by
  induction h with
  | nil => intro i j _ hj; simp at hj
  | cons x xs ih =>
    intro i j hij hj
    cases j with
    | zero => omega
    | succ j =>
      simp at hj
      cases i with
      | zero =>
        have := hf.1 (xs.getD j 0) (by rw [List.getD_eq_getElem?_getD, List.getElem?_eq_getElem hj]; exact List.getElem_mem _)
        simpa using this
      | succ i => simpa using ih hf.2 (by omega : i < j) hj
theorem bsAt_le (h : List Int) (x : Int) : bsAt h x ≤ h.length := by
  induction h with
  | nil => simp [bsAt]
  | cons y ys ih =>
    unfold bsAt at ih ⊢
    rw [List.takeWhile_cons]
    split
    · simpa using ih
    · simp
theorem bsAt_lo {h : List Int} {x : Int} : ∀ {j : Nat}, j < bsAt h x → x < h.getD j 0 := by
  induction h with
  | nil => intro j hj; simp [bsAt] at hj
  | cons y ys ih =>
    intro j hj
    unfold bsAt at ih hj
    rw [List.takeWhile_cons] at hj
    split at hj
    · rename_i hy
      cases j with
      | zero => simpa using hy
      | succ j => simpa using ih (by simpa using hj)
    · simp at hj
theorem bsAt_hi {h : List Int} {x : Int} (hf : Falls h) : ∀ {j : Nat}, bsAt h x ≤ j → j < h.length → h.getD j 0 ≤ x := by
  induction h with
  | nil => intro j _ hj; simp at hj
  | cons y ys ih =>
    intro j hj hl
    by_cases hy : x < y
    · have e : bsAt (y :: ys) x = bsAt ys x + 1 := by simp [bsAt, List.takeWhile_cons, hy]
      rw [e] at hj
      cases j with
      | zero => omega
      | succ j => simpa using ih hf.2 (by omega : bsAt ys x ≤ j) (by simpa using hl)
    · cases j with
      | zero => simpa using hy
      | succ j =>
        have := Falls_getD hf (i := 0) (j := j + 1) (by omega) hl
        have h0 : (y :: ys).getD 0 0 = y := rfl
        omega
theorem Falls_snoc {h : List Int} {x : Int} (hf : Falls h) (hx : ∀ y ∈ h, x < y) : Falls (h ++ [x]) := by
  induction h with
  | nil => exact ⟨by simp, trivial⟩
  | cons y ys ih =>
    refine ⟨fun z hz => ?_, ih hf.2 (fun z hz => hx z (List.mem_cons_of_mem _ hz))⟩
    rcases List.mem_append.1 hz with hz | hz
    · exact hf.1 z hz
    · rw [List.mem_singleton.1 hz]; exact hx y List.mem_cons_self
theorem Falls_putHead {h : List Int} {x : Int} (hf : Falls h) : Falls (putHead h x) ∧ ∀ z, (∀ y ∈ h, y < z) → x < z → ∀ y ∈ putHead h x, y < z := by
  induction h with
  | nil => simp [putHead, bsAt, Falls]
  | cons y ys ih =>
    obtain ⟨i1, i2⟩ := ih hf.2
    by_cases hy : x < y
    · have e : putHead (y :: ys) x = y :: putHead ys x := by
        have e : bsAt (y :: ys) x = bsAt ys x + 1 := by simp [bsAt, List.takeWhile_cons, hy]
        unfold putHead
        rw [e]
        by_cases hq : bsAt ys x = ys.length
        · simp [hq]
        · simp [hq]
      rw [e]
      refine ⟨⟨i2 y hf.1 hy, i1⟩, fun z hz hx u hu => ?_⟩
      rcases List.mem_cons.1 hu with rfl | hu
      · exact hz _ List.mem_cons_self
      · exact i2 z (fun v hv => hz v (List.mem_cons_of_mem _ hv)) hx u hu
    · have e : putHead (y :: ys) x = x :: ys := by
        have e : bsAt (y :: ys) x = 0 := by simp [bsAt, List.takeWhile_cons, hy]
        simp [putHead, e]
      rw [e]
      refine ⟨⟨fun u hu => ?_, hf.2⟩, fun z hz hx u hu => ?_⟩
      · have := hf.1 u hu; omega
      · rcases List.mem_cons.1 hu with rfl | hu
        · exact hx
        · exact hz u (List.mem_cons_of_mem _ hu)
theorem stateOf_falls (n : Nat) (l : List (Nat × Int)) : Falls (stateOf n l).2 ∧ (stateOf n l).1.length = n ∧ (stateOf n l).2.length ≤ l.length := by
  suffices h : ∀ (l : List (Nat × Int)) (s : List Int × List Int), Falls s.2 → s.1.length = n → Falls (l.foldl (outStep n) s).2 ∧ (l.foldl (outStep n) s).1.length = n ∧ (l.foldl (outStep n) s).2.length ≤ s.2.length + l.length by
    have := h l (List.replicate n 0, []) trivial (by simp)
    simpa [stateOf] using this
  intro l
  induction l with
  | nil => intro s h1 h2; exact ⟨h1, h2, by simp⟩
  | cons p l ih =>
    intro s h1 h2
    obtain ⟨a, b, c⟩ := ih (outStep n s p) (Falls_putHead h1).1 (by simp [outStep, h2])
    refine ⟨a, b, ?_⟩
    have : (outStep n s p).2.length ≤ s.2.length + 1 := by simp only [outStep, putHead]; split <;> simp
    simp only [List.foldl_cons, List.length_cons]
    omega

theorem keepX {W W' : World} {row : Option Nat} {base : Nat} {e : TypeId} {size : Nat} {v : Value} {n : Nat} {xs : List Value} (h : W.ownsRow base e size v n xs) (hg : W.grownBy W' row)
    (hr : ∀ r, row = some r → ∃ o : Obj, W.heap[r]? = some o ∧ o.isCells = false) : W'.ownsRow base e size v n xs := by
  refine h.kept hg ?_
  rcases h.2 with ⟨rfl, _⟩ | ⟨g, cap, cur, rfl, _, hgb, _⟩
  · exact .inl rfl
  · refine .inr fun e' => ?_
    obtain ⟨o, ho, hc⟩ := hr g (by simpa [Value.ownBlock] using e'.symm)
    rw [hgb] at ho; cases ho; cases hc
theorem keepB {W W' : World} {row : Option Nat} {B : Nat} {t : TypeId} {v : Value} (h : Boxed W B t v) (hg : W.grownBy W' row)
    (hr : ∀ r, row = some r → ∃ o : Obj, W.heap[r]? = some o ∧ o.isCells = false) : Boxed W' B t v :=
  h.kept hg (fun e' => by
    obtain ⟨o, ho, hc⟩ := hr B e'.symm
    rw [show W.heap[B]? = _ from h] at ho; cases ho; cases hc)

structure LenInv (w0 : World) (n B0 B1 B2 B3 : Nat) (sv : Value) (pre : List (Nat × Int)) (W : World) : Prop where
  out : W.ownsRow w0.heap.size 3 1 (.slice (some ⟨B0, 0, none⟩) n n) n (nums .i64 (stateOf n pre).1)
  b1 : Boxed W B1 22 (.slice (some ⟨B0, 0, none⟩) n n)
  b3 : Boxed W B3 22 sv
  hd : ∃ v, Boxed W B2 22 v ∧ W.ownsRow w0.heap.size 3 1 v (stateOf n pre).2.length (nums .i64 (stateOf n pre).2) ∧ v.ownBlock ≠ some B0
  bel : Below w0.heap.size w0 W
theorem lenInv_own {w0 : World} {n B0 B1 B2 B3 : Nat} {sv : Value} {B : Nat} (hB : w0.heap.size ≤ B) : OwnFrom B (LenInv w0 n B0 B1 B2 B3 sv) := by
  rintro s X Y row ⟨h1, h2, h2b, ⟨v, h3, h4, h5⟩, h6⟩ hg hr
  have hr' : ∀ r, row = some r → ∃ o : Obj, X.heap[r]? = some o ∧ o.isCells = false := fun r e => (hr r e).2
  exact ⟨keepX h1 hg hr', keepB h2 hg hr', keepB h2b hg hr', ⟨v, keepB h3 hg hr', keepX h4 hg hr', h5⟩, h6.grown hg h6.size (fun k e => Nat.le_trans hB (hr k e).1)⟩

theorem infoL3 : (Try.prog.info? 3).map (fun i => (i.zero, i.size, i.bytes)) = some (some (.int .i64 0), 1, 8) := by kernel_rfl

/-- What stands behind an append to the heads. -/
theorem app_facts {w W w1 : World} {sv : Value} {n q : Nat} {y : Int} {o hs : List Int} {Ah : Option Addr} {ch g' cap' : Nat}
    (hout : W.ownsRow w.heap.size 3 1 (.slice (some ⟨w.heap.size, 0, none⟩) n n) n (nums .i64 o)) (hb1 : Boxed W (w.heap.size + 1) 22 (.slice (some ⟨w.heap.size, 0, none⟩) n n))
    (hb3 : Boxed W (w.heap.size + 1 + 1 + 1) 22 sv) (hb2 : Boxed W (w.heap.size + 1 + 1) 22 (.slice Ah hs.length ch)) (hne : (Value.slice Ah hs.length ch).ownBlock ≠ some w.heap.size)
    (hrow : W.ownsRow w.heap.size 3 1 (.slice Ah hs.length ch) hs.length (nums .i64 hs)) (hbel : Below w.heap.size w W)
    (hown' : w1.ownsRow w.heap.size 3 1 (.slice (some ⟨g', 0, none⟩) (hs.length + 1) cap') (hs.length + 1) (nums .i64 hs ++ [.int .i64 y]))
    (hgrow : (W.alloc (.cells #[.int .i64 y] 3)).grownBy w1 (Value.slice Ah hs.length ch).ownBlock)
    (hat : (Value.slice (some ⟨g', 0, none⟩) (hs.length + 1) cap').ownBlock = (Value.slice Ah hs.length ch).ownBlock ∨ (Value.slice (some ⟨g', 0, none⟩) (hs.length + 1) cap').ownBlock = some (W.alloc (.cells #[.int .i64 y] 3)).heap.size)
    (hq : q < n) :
    g' ≠ w.heap.size ∧ g' ≠ w.heap.size + 1 ∧ g' ≠ w.heap.size + 1 + 1 ∧ w1.cell? ⟨g', hs.length, none⟩ = some (.int .i64 y) ∧ w1.frozen? ⟨g', hs.length, none⟩ = false ∧
      w1.cell? ⟨w.heap.size + 1, 0, none⟩ = some (.slice (some ⟨w.heap.size, 0, none⟩) n n) ∧ w1.cell? ⟨w.heap.size, q, none⟩ = some (.int .i64 (o.getD q 0)) ∧ w1.frozen? ⟨w.heap.size, q, none⟩ = false ∧
      w1.ownsRow w.heap.size 3 1 (.slice (some ⟨w.heap.size, 0, none⟩) n n) n (nums .i64 o) ∧ Boxed w1 (w.heap.size + 1) 22 (.slice (some ⟨w.heap.size, 0, none⟩) n n) ∧ Boxed w1 (w.heap.size + 1 + 1 + 1) 22 sv ∧ g' ≠ w.heap.size + 1 + 1 + 1 := by
  have hlt : w.heap.size < W.heap.size := (hout.lt _ rfl).2
  have h0 : g' ≠ w.heap.size := by
    rintro rfl
    rcases hat with h | h
    · exact hne h.symm
    · simp [Value.ownBlock] at h; omega
  have hout1 : w1.ownsRow w.heap.size 3 1 (.slice (some ⟨w.heap.size, 0, none⟩) n n) n (nums .i64 o) := (hout.alloc _).kept hgrow (.inr (fun h => hne h.symm))
  have hb11 : Boxed w1 (w.heap.size + 1) 22 (.slice (some ⟨w.heap.size, 0, none⟩) n n) := (hb1.alloc _).kept hgrow (hb1.not_row (by decide) hrow)
  have hb21 : Boxed w1 (w.heap.size + 1 + 1) 22 (.slice Ah hs.length ch) := (hb2.alloc _).kept hgrow (hb2.not_row (by decide) hrow)
  have hb31 : Boxed w1 (w.heap.size + 1 + 1 + 1) 22 sv := (hb3.alloc _).kept hgrow (hb3.not_row (by decide) hrow)
  have n1 := hb11.not_row (by decide) hown'
  have n3 := hb31.not_row (by decide) hown'
  have n2 := hb21.not_row (by decide) hown'
  refine ⟨h0, fun h => n1 (by rw [← h]; rfl), fun h => n2 (by rw [← h]; rfl), ?_, hown'.frozenAt _, hb11.cell, ?_, hout1.frozenAt _, hout1, hb11, hb31, fun h => n3 (by rw [← h]; rfl)⟩
  · rw [hown'.cellAt hs.length (by omega)]
    simp [nums]
  · rw [hout1.cellAt q (by omega)]
    have hl := hout.1
    simp [nums] at hl
    simp [nums, hl, hq]

theorem fin_box {W W2 : World} {B0 B3 g k q : Nat} {sv : Value} (h : Boxed W B3 22 sv) (h2 : Boxed W2 B3 22 sv) (hg : g ≠ B3) (hB : B0 ≠ B3) (u v : Value) :
    ((W2.setCell ⟨g, k, none⟩ u).setCell ⟨B0, q, none⟩ v).drew.heap[B3]? = W.heap[B3]? := by
  have h3 : Boxed ((W2.setCell ⟨g, k, none⟩ u).setCell ⟨B0, q, none⟩ v) B3 22 sv := by
    have a := Below.heap_setCell W2 ⟨g, k, none⟩ u B3 hg.symm
    have b := Below.heap_setCell (W2.setCell ⟨g, k, none⟩ u) ⟨B0, q, none⟩ v B3 hB.symm
    exact b.trans (a.trans h2)
  exact (show _ = _ from h3).trans h.symm
theorem fin_inv {w W W2 : World} {n g k q cap n' : Nat} {sv : Value} {pre : List (Nat × Int)} {x : Nat × Int} {o hs' : List Int} {c y : Int}
    (hst : stateOf n (pre ++ [x]) = (o.set q c, hs')) (hq : q < o.length ∧ o.length = n)
    (ho : W2.ownsRow w.heap.size 3 1 (.slice (some ⟨w.heap.size, 0, none⟩) n n) n (nums .i64 o)) (h1 : Boxed W2 (w.heap.size + 1) 22 (.slice (some ⟨w.heap.size, 0, none⟩) n n)) (h3 : Boxed W2 (w.heap.size + 1 + 1 + 1) 22 sv)
    (h2 : Boxed W2 (w.heap.size + 1 + 1) 22 (.slice (some ⟨g, 0, none⟩) n' cap)) {xs : List Value} (hr : W2.ownsRow w.heap.size 3 1 (.slice (some ⟨g, 0, none⟩) n' cap) n' xs) (hn' : n' = hs'.length)
    (g0 : g ≠ w.heap.size) (g1 : g ≠ w.heap.size + 1) (g2 : g ≠ w.heap.size + 1 + 1) (g3 : g ≠ w.heap.size + 1 + 1 + 1) (hxs : xs.set k (.int .i64 y) = nums .i64 hs') (hbel : Below w.heap.size w W) (hb2 : Below w.heap.size W W2) :
    LenInv w n w.heap.size (w.heap.size + 1) (w.heap.size + 1 + 1) (w.heap.size + 1 + 1 + 1) sv (pre ++ [x]) ((W2.setCell ⟨g, k, none⟩ (.int .i64 y)).setCell ⟨w.heap.size, q, none⟩ (.int .i64 c)).drew := by
  subst hn'
  have bx : ∀ {B : Nat} {v : Value}, Boxed W2 B 22 v → g ≠ B → w.heap.size ≠ B → Boxed ((W2.setCell ⟨g, k, none⟩ (.int .i64 y)).setCell ⟨w.heap.size, q, none⟩ (.int .i64 c)) B 22 v := by
    intro B v h hg hB
    have a := Below.heap_setCell W2 ⟨g, k, none⟩ (.int .i64 y) B hg.symm
    have b := Below.heap_setCell (W2.setCell ⟨g, k, none⟩ (.int .i64 y)) ⟨w.heap.size, q, none⟩ (.int .i64 c) B hB.symm
    exact b.trans (a.trans h)
  have o1 := own_setCell (p := ⟨g, k, none⟩) ho (by simp [Value.ownBlock]; exact g0) (.int .i64 y)
  have o2 := (o1.stored q (.int .i64 c)).1
  have e2 : (nums .i64 o).set q (Value.int .i64 c) = nums .i64 (o.set q c) := by simp [nums, List.map_set]
  rw [e2] at o2
  have q1 := (hr.stored k (.int .i64 y)).1
  rw [hxs] at q1
  have q2 := own_setCell (p := ⟨w.heap.size, q, none⟩) q1 (by simp [Value.ownBlock]; exact g0.symm) (.int .i64 c)
  refine ⟨?_, bx h1 g1 (by omega), bx h3 g3 (by omega), ⟨_, bx h2 g2 (by omega), ?_, by simp [Value.ownBlock]; exact g0⟩, ?_⟩
  · rw [hst]; exact o2.drew
  · rw [hst]; exact q2.drew
  · exact ((((hbel.trans hb2).setCell (p := ⟨g, k, none⟩) (hr.lt _ rfl).1 _).setCell (p := ⟨w.heap.size, q, none⟩) (Nat.le_refl _) _)).drew
theorem make_ints (n : Nat) (hn : n ≤ 256) (w : World) :
    (Instr.makeSlice 22 (.int .i64 (n : Int)) (.int .i64 (n : Int))).run Try.prog w = .ok (.slice (some ⟨w.heap.size, 0, none⟩) n n) (w.alloc (.cells (nums .i64 (List.replicate n 0)).toArray 3)) := by
  obtain ⟨i0, hi, hz0, hz1, hz2⟩ := info_parts infoL3
  have := run_make (P := Try.prog) w 22 3 i0 (.int .i64 0) Try.underlying22 hi hz0 .i64 .i64 n n (by omega) (Int.le_refl _) (by rw [hz2]; omega) (by omega)
  rw [this, hz1]
  have e : madeCells (Value.int .i64 0).cells ((n : Int).toNat * 1) = (nums .i64 (List.replicate n 0)).toArray := by
    apply Array.ext
    · simp [madeCells, nums]
    · intro i h1 h2
      simp [madeCells, nums, Value.cells, Nat.mod_one]
  rw [e]
  simp

set_option maxRecDepth 100000 in
set_option maxHeartbeats 4000000 in
theorem lengths_in (A : Option Addr) (cap : Nat) (zs : List Int) (hlen : zs.length ≤ 256) (w : World) (hc : Kd.C (Kd.int .i64) w A zs.length zs) :
    Calls Try.prog 45 #[.slice A zs.length cap] w fun e w' => ∃ v0_ : Value, e = .returned (v0_) ∧ w'.ownsRow w.heap.size 3 1 v0_ zs.length (nums .i64 (stateOf zs.length (bwd zs zs.length)).1) ∧ Below w.heap.size w w' := by
  refine (callsIn_wide (n := 3)).1 ?_
  have h45 : Fence.wide.fn 45 := trivial
  have h56 : Fence.wide.fn 56 := trivial
  have h62 : Fence.wide.fn 62 := trivial
  have hro : Fence.wide.round = none := rfl
  have h1 : 1 ≤ 3 := by omega
  have HC := Aside0.mk hc
  clear hc
  have hmk := make_ints zs.length hlen
  refine callsIn_of_wp_marks Try.func45 rfl h45 ?_ hro
  simp only [Try.ntmps45, List.size_toArray, List.length_cons, List.length_nil, Nat.reduceAdd, Nat.reduceSub, Array.replicate_succ, Array.replicate_zero, List.push_toArray, List.append_toArray, List.nil_append, List.cons_append]
  gi_wp2_with (gi_at_call 56; refine (backward_in Fence.wide (3 - 1) h56 hro _ _ _ _).mono ?_; rintro e w' ⟨rfl, rfl⟩)
  have bO := Boxed.new (w.alloc (.cells (nums .i64 (List.replicate zs.length 0)).toArray 3)) 22 (.slice (some ⟨w.heap.size, 0, none⟩) zs.length zs.length)
  have oO : (w.alloc (.cells (nums .i64 (List.replicate zs.length 0)).toArray 3)).ownsRow w.heap.size 3 1 (.slice (some ⟨w.heap.size, 0, none⟩) zs.length zs.length) zs.length (nums .i64 (List.replicate zs.length 0)) := by
    have := World.ownsRow_lit (base := w.heap.size) (e := 3) (size := 1) w (nums .i64 (List.replicate zs.length 0)).toArray zs.length (Nat.le_refl _) (by unfold maxLen; omega) (by simp [nums])
    simpa using this
  have bH := Boxed.new ((w.alloc (.cells (nums .i64 (List.replicate zs.length 0)).toArray 3)).alloc (.cells #[.slice (some ⟨w.heap.size, 0, none⟩) zs.length zs.length] 22)) 22 (.slice none 0 0)
  have bS := Boxed.new (((w.alloc (.cells (nums .i64 (List.replicate zs.length 0)).toArray 3)).alloc (.cells #[.slice (some ⟨w.heap.size, 0, none⟩) zs.length zs.length] 22)).alloc (.cells #[.slice none 0 0] 22)) 22 (.slice A zs.length cap)
  simp only [World.size_alloc] at bO bH bS
  have hBel : Below w.heap.size w ((((w.alloc (.cells (nums .i64 (List.replicate zs.length 0)).toArray 3)).alloc (.cells #[.slice (some ⟨w.heap.size, 0, none⟩) zs.length zs.length] 22)).alloc (.cells #[.slice none 0 0] 22)).alloc (.cells #[.slice A zs.length cap] 22)) :=
    ((((Below.refl _ w).alloc (Nat.le_refl _) _).alloc (by simp) _).alloc (by simp; omega) _).alloc (by simp; omega) _
  refine wpIn_rangeFunc_ownG hro h1 (gf := 62) (lb := #[.pointer (some ⟨w.heap.size + 1 + 1 + 1, 0, none⟩)]) rfl h62 (enters_of Try.func62 (by kernel_rfl) rfl)
    (backward_stops Fence.wide (3 - 1) h62 hro (by omega) (w.heap.size + 1 + 1 + 1) w.heap.size A cap zs hlen _ bS (fun ad e h => by
      obtain ⟨ad', e', hc'⟩ := Kd.at_int HC.out 0 (by omega) (by omega)
      rw [e] at e'
      cases e'
      have := World.block_lt_of_cell? w _ hc'
      rwa [add_block] at this) (Kd.C_below HC.out hBel)) (fun h k => h.trans k)
    (fun W l o o' hl ho hcf _ => ⟨belowK_b (w := w) (Nat.le_refl _) W l o o' (by simp at hl; omega) ho hcf ‹_›, World.putObj_heap_other (by simp at hl; omega)⟩)
    (Below.refl _ _) (fun _ => rfl)
    (LenInv w zs.length w.heap.size (w.heap.size + 1) (w.heap.size + 1 + 1) (w.heap.size + 1 + 1 + 1) (.slice A zs.length cap)) (fun _ _ _ => False)
    (lenInv_own (by simp; omega)) (fun _ _ _ _ _ hs _ _ => hs)
    ⟨((oO.alloc _).alloc _).alloc _, (bO.alloc _).alloc _, bS, ⟨_, bH.alloc _, World.ownsRow_nil _ _ _ _, by simp [Value.ownBlock]⟩, hBel⟩
    (fun x => { tmps := #[.slice A zs.length cap, undef, .slice none 0 0, .pointer (some ⟨w.heap.size + 1, 0, none⟩), .pointer (some ⟨w.heap.size + 1 + 1, 0, none⟩), .int .i64 (ixm x.1 zs.length : Int), .int .i64 x.2, undef, undef, .slice A zs.length cap, .int .i64 zs.length, .slice (some ⟨w.heap.size, 0, none⟩) zs.length zs.length, .slice A zs.length cap, .func (.func 62) #[] #[.pointer (some ⟨w.heap.size + 1 + 1 + 1, 0, none⟩)], .int .i64 (ixm x.1 zs.length : Int), .int .i64 x.2, undef, undef, undef, undef, undef, undef, undef, undef, undef, undef, undef, undef, undef, undef, undef, undef, undef, undef, undef, undef, undef, undef, undef, undef, undef, undef, undef, undef, undef], defers := [] }) ?assign ?body ?done ?stop
  case assign =>
    intro l x W K hK
    gi_wp2
    exact hK
  case body =>
    rintro l pre x W ⟨hout, hb1, hb3, ⟨v, hb2, hrow, hne⟩, hbel⟩ hlt
    obtain ⟨f1, f2, f3⟩ := stateOf_falls zs.length pre
    have hst := stateOf_snoc zs.length pre x
    obtain ⟨o, ho⟩ : ∃ o, (stateOf zs.length pre).1 = o := ⟨_, rfl⟩
    obtain ⟨hs, hhs⟩ : ∃ hs, (stateOf zs.length pre).2 = hs := ⟨_, rfl⟩
    unfold outStep at hst
    rw [ho] at hout f2 hst
    rw [hhs] at hrow f1 f3 hst
    have hq : ixm x.1 zs.length < zs.length := Nat.mod_lt _ (by omega)
    obtain ⟨q, hqe⟩ : ∃ q, ixm x.1 zs.length = q := ⟨_, rfl⟩
    rw [hqe] at hst hq ⊢
    obtain ⟨y, hye⟩ : ∃ y, x.2 = y := ⟨_, rfl⟩
    rw [hye] at hst ⊢
    have hlo := fun j => @bsAt_lo hs y j
    have hhi := fun j => @bsAt_hi hs y f1 j
    have hmle := bsAt_le hs y
    obtain ⟨m, hm⟩ : ∃ m, bsAt hs y = m := ⟨_, rfl⟩
    have hput : putHead hs y = if m = hs.length then hs ++ [y] else hs.set m y := by unfold putHead; rw [hm]
    rw [hm] at hst hlo hhi hmle
    rw [hput] at hst
    have HST := Lib.hid hst
    have HLO := Lib.hid hlo
    have HHI := Lib.hid hhi
    clear hst hlo hhi hput hm hye hqe ho hhs f1
    have c1 := hb1.cell
    have c2 := hb2.cell
    have z2 := hb2.frozen
    have hl256 : hs.length ≤ 256 := by omega
    obtain ⟨Ah, ch, rfl, hrd⟩ := own_reads hrow
    have hC : Kd.C (Kd.int .i64) W Ah hs.length hs := Kd.C_of_reads (d := (0 : Int)) (h1 := fun _ => rfl) hrd
    have HCC := Aside0.mk hC
    clear hC hrd
    have HF2 := Lib.hid f2
    clear f2
    by_cases hcase : m = hs.length
    · subst hcase
      obtain ⟨i0, hi, hz0, hz1, hz2⟩ := info_parts infoL3
      gi_wp2_with (first | (refine ⟨trivial, ?_⟩; gi_at_call 57; refine (CallsIn.inRound l (callsIn_wide.2 (bsf_calls hs y hs.length Ah ch hl256 (Nat.le_refl _) HLO.out HHI.out _ HCC.out))).mono ?_; rintro e w' ⟨rfl, rfl⟩) | (gi_at_builtin; go_loud (refine wpListIn_append_own_at _ rfl _ _ 22 rfl w.heap.size 3 i0 (.int .i64 0) 1 8 Try.underlying22 hi hz0 hz1 hz2 rfl (by decide) _ _ _ rfl (hrow.alloc _) ⟨W.heap.size, 0, none⟩ 1 1 [.int .i64 y] rfl rfl (cell_one_new _ _ _) (by simp [Value.oneCell']) (by unfold maxLen; omega) (by omega) (by have := hbel.size; simp; omega) ?_; intro v' w1 hown' hgrow _ hat; obtain ⟨g', cap', rfl⟩ := ownsRow_succ hown'; obtain ⟨hv1, hv2, hr2, hk2, hbl2⟩ := hb2.appended (by decide) hrow hbel.size (by omega) hown' hgrow; obtain ⟨hgB0, hgB1, hgB2, e1, e2, e3, e4, e5, e6, e7, e8, hgB3⟩ := app_facts hout hb1 hb3 hb2 hne hrow hbel hown' hgrow hat hq; have hz := hv1.frozen; have hzc := hv1.cell)))
      have d1 := hv2.cell
      have d2 : (w1.setCell ⟨w.heap.size + 1 + 1, 0, none⟩ (.slice (some ⟨g', 0, none⟩) (hs.length + 1) cap')).cell? ⟨g', hs.length, none⟩ = some (.int .i64 y) := by
        rw [hr2.cellAt hs.length (by omega)]; simp [nums]
      have d3 : (w1.setCell ⟨w.heap.size + 1 + 1, 0, none⟩ (.slice (some ⟨g', 0, none⟩) (hs.length + 1) cap')).frozen? ⟨g', hs.length, none⟩ = false := hr2.frozenAt _
      have r6 := own_setCell (p := ⟨w.heap.size + 1 + 1, 0, none⟩) e6 (by simp [Value.ownBlock]; omega) (.slice (some ⟨g', 0, none⟩) (hs.length + 1) cap')
      have r7 : Boxed (w1.setCell ⟨w.heap.size + 1 + 1, 0, none⟩ (.slice (some ⟨g', 0, none⟩) (hs.length + 1) cap')) (w.heap.size + 1) 22 (.slice (some ⟨w.heap.size, 0, none⟩) zs.length zs.length) := e7.kept (grownBy_setCell' w1 _ _) (by simp)
      have r8 : Boxed (w1.setCell ⟨w.heap.size + 1 + 1, 0, none⟩ (.slice (some ⟨g', 0, none⟩) (hs.length + 1) cap')) (w.heap.size + 1 + 1 + 1) 22 (.slice A zs.length cap) := e8.kept (grownBy_setCell' w1 _ _) (by simp)
      have i1 : (hs.length : Int) < (hs.length : Int) + 1 := by omega
      generalize w1.setCell ⟨w.heap.size + 1 + 1, 0, none⟩ (.slice (some ⟨g', 0, none⟩) (hs.length + 1) cap') = W2 at d1 d2 d3 hv2 hr2 hk2 hbl2 r6 r7 r8 ⊢
      clear hzc hz e1 e2 e3 e4 e5 e6 e7 e8 hv1 c1 c2 z2 hmk hown' hgrow hat hi hz0 hz1 hz2
      have c1 := r7.cell
      have q1 := r6.cellAt q (by omega)
      have q2 := r6.frozenAt q
      have q3 : (nums IntKind.i64 o)[q]? = some (.int .i64 (o.getD q 0)) := by
        have hl := HF2.out
        simp [nums, hl, hq]
      rw [q3] at q1
      clear q3
      have hgB0' := hgB0.symm
      have hgB1' := hgB1.symm
      have hgB2' := hgB2.symm
      refine wpInRound_still_tail 9 (by kernel_rfl) (by kernel_rfl) (by kernel_rfl) (by rintro ⟨_, _, h⟩; exact h) ?_
      simp only [List.take_succ_cons, List.take_zero, List.drop_succ_cons, List.drop_zero]
      repeat still_step
      refine wpStill_nil ?_
      go_wp2
      gi_wp2
      exact ⟨(((hk2.trans (KeepsOthers.setCell _ _ _)).trans (KeepsOthers.setCell _ _ _)).trans (KeepsOthers.drew _)).from _,
        ⟨((hbl2.setCell (p := ⟨g', hs.length, none⟩) (hr2.lt _ rfl).1 _).setCell (p := ⟨w.heap.size, q, none⟩) (Nat.le_refl _) _).drew, fin_box hb3 r8 hgB3 (by omega) _ _⟩,
        fin_inv (by rw [HST.out, if_pos trivial]) (by simp [HF2.out, hq]) r6 r7 r8 hv2 hr2 (by simp) hgB0 hgB1 hgB2 hgB3 (by simp [nums]) hbel hbl2⟩
    · have hmlt : m < hs.length := by omega
      have hy1 : hs.getD m 0 ≤ y := HHI.out m (Nat.le_refl _) hmlt
      obtain ⟨gh, eh⟩ : ∃ gh, Ah = some ⟨gh, 0, none⟩ := by
        rcases hrow.2 with ⟨h, _⟩ | ⟨g, cp, cur, h, _⟩
        · injection h with h1 h2; omega
        · injection h with h1; exact ⟨g, h1⟩
      subst eh
      have n1 := hb1.not_row (by decide) hrow
      have n2 := hb2.not_row (by decide) hrow
      have n3 := hb3.not_row (by decide) hrow
      have hgB0 : gh ≠ w.heap.size := fun h => hne (by rw [← h]; rfl)
      have hgB1 : gh ≠ w.heap.size + 1 := fun h => n1 (by rw [← h]; rfl)
      have hgB2 : gh ≠ w.heap.size + 1 + 1 := fun h => n2 (by rw [← h]; rfl)
      have hgB3 : gh ≠ w.heap.size + 1 + 1 + 1 := fun h => n3 (by rw [← h]; rfl)
      have hgB0' := hgB0.symm
      have hgB1' := hgB1.symm
      have hgB2' := hgB2.symm
      have d2 := hrow.cellAt m (by omega)
      have d3 := hrow.frozenAt m
      have q1 := hout.cellAt q (by omega)
      have q2 := hout.frozenAt q
      have q3 : (nums IntKind.i64 o)[q]? = some (.int .i64 (o.getD q 0)) := by
        have hl := HF2.out
        simp [nums, hl, hq]
      have q4 : (nums IntKind.i64 hs)[m]? = some (.int .i64 (hs.getD m 0)) := by simp [nums, hmlt]
      rw [q3] at q1
      rw [q4] at d2
      clear q3 q4
      obtain ⟨u, hu⟩ : ∃ u, hs.getD m 0 = u := ⟨_, rfl⟩
      obtain ⟨u', hu'⟩ : ∃ u', o.getD q 0 = u' := ⟨_, rfl⟩
      rw [hu] at hy1 d2
      rw [hu'] at q1
      clear hu hu' hmk
      gi_wp2_with (first | (refine ⟨trivial, ?_⟩; gi_at_call 57; refine (CallsIn.inRound l (callsIn_wide.2 (bsf_calls hs y m (some ⟨gh, 0, none⟩) ch hl256 hmle HLO.out HHI.out _ HCC.out))).mono ?_; rintro e w' ⟨rfl, rfl⟩))
      refine wpInRound_still_tail 9 (by kernel_rfl) (by kernel_rfl) (by kernel_rfl) (by rintro ⟨_, _, h⟩; exact h) ?_
      simp only [List.take_succ_cons, List.take_zero, List.drop_succ_cons, List.drop_zero]
      repeat still_step
      refine wpStill_nil ?_
      go_wp2
      all_goals gi_wp2
      all_goals
        have FIN : ∀ z : Int, z = y → KeepsOthers W ((W.setCell ⟨gh, m, none⟩ (.int .i64 z)).setCell ⟨w.heap.size, q, none⟩ (.int .i64 (m + 1))).drew ∧ KpB w.heap.size (w.heap.size + 1 + 1 + 1) W ((W.setCell ⟨gh, m, none⟩ (.int .i64 z)).setCell ⟨w.heap.size, q, none⟩ (.int .i64 (m + 1))).drew ∧
            LenInv w zs.length w.heap.size (w.heap.size + 1) (w.heap.size + 1 + 1) (w.heap.size + 1 + 1 + 1) (.slice A zs.length cap) (pre ++ [x]) ((W.setCell ⟨gh, m, none⟩ (.int .i64 z)).setCell ⟨w.heap.size, q, none⟩ (.int .i64 (m + 1))).drew := by
          rintro z rfl
          exact ⟨((KeepsOthers.setCell _ _ _).trans (KeepsOthers.setCell _ _ _)).trans (KeepsOthers.drew _),
            ⟨(((Below.refl _ W).setCell (p := ⟨gh, m, none⟩) (hrow.lt _ rfl).1 _).setCell (p := ⟨w.heap.size, q, none⟩) (Nat.le_refl _) _).drew, fin_box hb3 hb3 hgB3 (by omega) _ _⟩,
            fin_inv (by rw [HST.out, if_neg hcase]) (by simp [HF2.out, hq]) hout hb1 hb3 hb2 hrow (by simp) hgB0 hgB1 hgB2 hgB3 (by simp [nums, List.map_set]) hbel (Below.refl _ _)⟩
        first
        | (obtain ⟨k1, k2, k3⟩ := FIN u (by omega); exact ⟨k1.from _, k2, k3⟩)
        | (obtain ⟨k1, k2, k3⟩ := FIN y rfl; exact ⟨k1.from _, k2, k3⟩)
  case done =>
    rintro D ys W hD rfl ⟨hout, hb1, _, _, hbel⟩ hK
    have c1 := hb1.cell
    gi_wp2
    refine ⟨by simp, .inl ⟨_, _, rfl, run_takeDeferred hK, ?_⟩⟩
    exact ⟨_, results_tmp rfl _ _ _, _, rfl, ownsRow_putObj hout _ hK rfl, hbel.trans (belowK_b (w := w) (Nat.le_refl _) W D _ _ (by simp at hD; omega) hK rfl rfl)⟩
  case stop =>
    rintro D c pre W _ _ h _
    exact h.elim

theorem R_of_ints {w : World} {base : Nat} {e : TypeId} {v : Value} {xs : List Int} (h : w.ownsRow base e 1 v xs.length (nums .i64 xs)) : Kd.R (Kd.int .i64) e w base (fun _ => True) v xs :=
  ⟨fun _ _ => trivial, _, h, by
    refine ⟨by show (nums .i64 xs).length = xs.length * 1; simp [nums], fun j p hj => ?_⟩
    have hj' : j < xs.length := (List.getElem?_eq_some_iff.1 hj).1
    have hp : xs[j] = p := (List.getElem?_eq_some_iff.1 hj).2
    show List.take 1 (List.drop (j * 1) (nums .i64 xs)) = [Value.int .i64 p]
    rw [Nat.mul_one, List.drop_eq_getElem_cons (by simpa [nums] using hj')]
    simp [nums, hp]⟩

/-- For each place the length of the longest rising part that begins there, and the greatest first numbers by lengths. -/
def lensOf : List Int → List Int × List Int
  | [] => ([], [])
  | x :: xs => (((bsAt (lensOf xs).2 x : Int) + 1) :: (lensOf xs).1, putHead (lensOf xs).2 x)
theorem lensOf_length : ∀ l : List Int, (lensOf l).1.length = l.length
  | [] => rfl
  | _ :: xs => by simp [lensOf, lensOf_length xs]
theorem stateOf_bwd (l : List Int) : ∀ k, k ≤ l.length → stateOf l.length (bwd l k) = (List.replicate (l.length - k) 0 ++ (lensOf (l.drop (l.length - k))).1, (lensOf (l.drop (l.length - k))).2)
  | 0, _ => by simp [bwd, stateOf, lensOf]
  | k + 1, hk => by
    rw [bwd_succ, stateOf_snoc, stateOf_bwd l k (by omega)]
    have hj : l.length - 1 - k < l.length := by omega
    have e : l.length - (k + 1) = l.length - 1 - k := by omega
    have ed : l.drop (l.length - 1 - k) = l[l.length - 1 - k] :: l.drop (l.length - k) := by
      rw [List.drop_eq_getElem_cons hj]
      congr 2
      omega
    rw [e, ed]
    simp only [outStep, lensOf, ixm]
    rw [Nat.mod_eq_of_lt hj]
    have ex : l.getD (l.length - 1 - k) 0 = l[l.length - 1 - k] := by simp [hj]
    rw [ex]
    congr 1
    have er : List.replicate (l.length - k) (0 : Int) = List.replicate (l.length - 1 - k) 0 ++ [0] := by
      rw [show l.length - k = l.length - 1 - k + 1 by omega, List.replicate_succ']
    rw [er, List.append_assoc, List.set_append_right _ _ (by simp)]
    simp

def lis_lengths.f (l0 : List Int) : Option (List Int) := if l0.length ≤ 256 then some (lensOf l0).1 else none
theorem lis_lengths.calls (A0 : Option Addr) (c0 : Nat) (l0 : List Int) (r : List Int) (w : World) (hr0 : Kd.C (Kd.int .i64) w A0 l0.length l0) (hc0 : l0.length ≤ c0) (h : lis_lengths.f l0 = some r) :
    Calls Try.prog 45 #[.slice A0 l0.length c0] w fun e w' => ∃ v0_ : Value, e = .returned (v0_) ∧ Kd.R (Kd.int .i64) 3 w' w.heap.size (fun _ => True) v0_ r ∧ Below w.heap.size w w' := by
  unfold lis_lengths.f at h
  split at h
  · rename_i hl
    injection h with h
    subst h
    refine (lengths_in A0 c0 l0 hl w hr0).mono fun e w' ⟨v, he, ho, hb⟩ => ⟨v, he, ?_, hb⟩
    have hs := stateOf_bwd l0 l0.length (Nat.le_refl _)
    simp at hs
    rw [hs] at ho
    exact R_of_ints (by rw [lensOf_length]; exact ho)
  · cases h

end Go.Proofs.Ytchmncgnaiiijaa.P
