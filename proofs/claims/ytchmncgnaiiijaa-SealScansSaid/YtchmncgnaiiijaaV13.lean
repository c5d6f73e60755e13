-- MADE by wip/tools/pr2.py for this claim
import Derived.Test.YtchmncgnaiiijaaV0
import Derived.Test.YtchmncgnaiiijaaV11
namespace Go.Proofs.Ytchmncgnaiiijaa.V
open Go.RowKit Go.Proofs.YtchmncgnaiiijaaW.PrintWords Go.Proofs.YtchmncgnaiiijaaW.PrintLast Go.Proofs.YtchmncgnaiiijaaW.PrintMore
attribute [local go_sem] max2_int min2_int max_two min_two max_three min_three max_four min_four   -- for this text's walks alone
set_option linter.unusedVariables false
set_option linter.unusedSimpArgs false

-- GIVENPART
/-! ### seal_Scan: function 34 (mine) -/
/-! ### A loop over a function whose things are told of memory: what a thing says of its world (V) is handed on to the round. Rounds that go on alone. -/
def SeqV {α : Type} (F : Fence) (n : Nat) (P : Program) (g : Nat) (lb : Array Value) (encs : α → Array Value) (V : α → World → World → Prop) (Kp : World → World → Prop) (S : List α → World → Prop) (N : Nat) (w : World) : Prop :=
  ∀ (l : Nat) (J : List α → World → Prop) (W : World), Below w.heap.size w W → AbidesFrom W.heap.size J →
    (∀ pre x W0 W1, J pre W0 → Below W0.heap.size W0 W1 → V x W0 W1 → pre.length < N → YieldAt F (n - 1) P l (encs x) W1 fun e W' => e = .returned (.bool true) ∧ J (pre ++ [x]) W' ∧ Kp W1 W') →
    J [] W → CallsIn F n P g (#[.func (.yield l) #[] #[]] ++ lb) W fun e W' => (∃ v, e = .returned v) ∧ ∃ xs, S xs W' ∧ J xs W'
theorem rangeV {F : Fence} {n : Nat} {P : Program} {α : Type} {g : Operand} {ps : Array Tmp} {assign body : Code} {Q : Exit → Act → World → Prop} {a : Act} {w : World}
    (hro : F.round = none) (h1 : 1 ≤ n) {gf : Nat} {lb : Array Value} (hg : a.eval g = .func (.func gf) #[] lb) (hFg : F.fn gf) (eg : ∀ args w, (callFunc gf args).run P w = .ok (.enter gf args) w)
    {encs : α → Array Value} {V : α → World → World → Prop} {Kp : World → World → Prop} {S : List α → World → Prop} {N : Nat} {w0 : World} (hseq : SeqV F (n - 1) P gf lb encs V Kp S N w0)
    (hKt : ∀ {A B C : World}, Kp A B → Kp B C → Kp A C) (hKb : ∀ (W : World) (l : Nat) (o o' : Obj), w.heap.size ≤ l → W.heap[l]? = some o → o.isCells = false → Kp W (W.putObj l o')) (hb0 : Below w0.heap.size w0 w) (hps : ∀ x, (encs x).size = ps.size)
    (I : List α → World → Prop) (hI : OwnFrom w.heap.size I) (h0 : I [] w) (M : List α × α × Act → World → Prop) (hM : OwnFrom w.heap.size M) (hS : OwnFrom w.heap.size S)
    (hassign : ∀ (l : Nat) (pre : List α) (x : α) (W0 W : World) (K : Act → World → Prop), I pre W0 → Below W0.heap.size W0 W → V x W0 W → (∀ a' W', KeepsFrom w.heap.size W W' → Kp W W' → M (pre, x, a') W' → K a' W') →
      assign.wpIn (F.inRound l) (n - 1 - 1) P (Exit.then K (fun _ _ _ => False)) { tmps := (ps.zip (encs x)).foldl (fun t (p, v) => t.setIfInBounds p v) a.tmps, defers := [] } W)
    (hbody : ∀ (l : Nat) (pre : List α) (x : α) (a' : Act) (W : World), M (pre, x, a') W → pre.length < N → body.wpIn (F.inRound l) (n - 1 - 1) P (fun e _ W' => e = .normal ∧ KeepsFrom w.heap.size W W' ∧ Kp W W' ∧ I (pre ++ [x]) W') a' W)
    (hdone : ∀ (D : Nat) (xs : List α) (W : World), w.heap.size ≤ D → S xs W → I xs W → W.heap[D]? = some (.deferred (some [])) → Q .normal { a with defers := { target := .collected D, args := #[] } :: a.defers } W) :
    (Code.rangeFunc g ps assign body).wpIn F n P Q a w := by
  refine wpIn_rangeFunc (fun fn hfn => ?_)
  rw [hro]
  obtain ⟨B, hB⟩ : ∃ B, w.heap.size = B := ⟨_, rfl⟩
  obtain ⟨rec, hrec⟩ : ∃ rec : LoopState → Loop, rec = fun st => { state := st, pending := none, fn, tmps := a.tmps, params := ps, assign, body, defers := w.heap.size } := ⟨_, rfl⟩
  obtain ⟨W1, hW1⟩ : ∃ W1, (w.alloc (.deferred (some []))).alloc (.loop (rec .ready)) = W1 := ⟨_, rfl⟩
  have sz1 : W1.heap.size = B + 1 + 1 := by rw [← hW1, ← hB]; simp
  have l1 : W1.heap[B + 1]? = some (.loop (rec .ready)) := by
    have := World.alloc_heap_new (w.alloc (.deferred (some []))) (.loop (rec .ready))
    rw [World.size_alloc] at this
    rw [← hW1, ← hB]
    exact this
  have d1 : W1.heap[B]? = some (.deferred (some [])) := by
    rw [← hW1, ← hB]
    exact (Below.heap_alloc _ _ _ (by simp)).trans (World.alloc_heap_new w _)
  have b1 : Below w0.heap.size w0 W1 := by
    rw [← hW1]
    exact hb0.trans ((((Below.refl _ w).alloc (Nat.le_refl _) _).alloc (by simp) _).mono hb0.size)
  have row_ : ∀ {A : World} {row : Option Nat}, (∀ r, row = some r → W1.heap.size ≤ r ∧ ∃ o : Obj, A.heap[r]? = some o ∧ o.isWalk = true) → ∀ r, row = some r → w.heap.size ≤ r ∧ ∃ o : Obj, A.heap[r]? = some o ∧ o.isCells = false := fun hr r e => by
    obtain ⟨h2, o, ho, hw⟩ := hr r e
    exact ⟨by omega, o, ho, Obj.not_cells_of_walk hw⟩
  refine ⟨B + 1, [{ target := .collected B, args := #[] }], W1, { target := .fn (.func gf) lb, args := #[.func (.yield (B + 1)) #[] #[]] }, W1, gf, #[.func (.yield (B + 1)) #[] #[]] ++ lb, W1, ?_, ?_, ?_, ?_, fun _ => h1, ?_⟩
  · rw [← hW1, hrec, ← hB]
    exact run_enterLoop_outer _ _ _ _ _
  · simp only [resolve, hg]
    simp [go_sem]
  · intro f' hf'
    simp [Target.leads] at hf'
    subst hf'
    exact hFg
  · simp [invoke, go_sem, eg]
  refine (hseq (B + 1) (fun pre W => I pre W ∧ W.heap[B + 1]? = some (.loop (rec .ready)) ∧ W.heap[B]? = some (.deferred (some []))) W1 b1
    (fun s A C row hs hg' hr => ⟨hI s A C row hs.1 hg' (row_ hr), (grownBy_keeps hg' (fun r e => (hr r e).2) hs.2.1 rfl).trans hs.2.1, (grownBy_keeps hg' (fun r e => (hr r e).2) hs.2.2 rfl).trans hs.2.2⟩) ?_
    ⟨by rw [← hW1]; exact hI.alloc _ (hI.alloc _ h0), l1, d1⟩).mono ?_
  · rintro pre x W0 W ⟨hi, hl0, hk0⟩ hbel hv hlen
    have hl : W.heap[B + 1]? = some (.loop (rec .ready)) := (hbel.block _ (Array.getElem?_eq_some_iff.1 hl0).1).trans hl0
    have hk : W.heap[B]? = some (.deferred (some [])) := (hbel.block _ (Array.getElem?_eq_some_iff.1 hk0).1).trans hk0
    have hy := run_yield (P := P) (args := encs x) hl (by rw [hrec]; exact hps x)
    rw [hrec] at hy
    refine ⟨fn, _, assign, body, hy, roundIn_of_wpIn hfn (hassign _ pre x W0 W _ hi hbel hv fun a' Wa ka pa ma => ?_)⟩
    have hl2 := ka.same _ _ (show w.heap.size ≤ B + 1 by omega) hl rfl
    have hk2 := ka.same _ _ (show w.heap.size ≤ B by omega) hk rfl
    refine ⟨_, run_beginRound hl2 (by rw [hrec]), ?_⟩
    have hl3 : (Wa.putObj (B + 1) (.loop { rec .ready with state := .busy })).heap[B + 1]? = some (.loop { rec .ready with state := .busy }) := World.putObj_heap_same (Array.getElem?_eq_some_iff.1 hl2).1
    have hk3 : (Wa.putObj (B + 1) (.loop { rec .ready with state := .busy })).heap[B]? = some (.deferred (some [])) := (World.putObj_heap_other (by omega)).trans hk2
    refine wpIn_mono (hbody _ pre x a' _ (hM.putObj _ ma (by omega) hl2 rfl) hlen) ?_
    rintro e a3 W3 ⟨rfl, kb, pb, ib⟩
    have hl4 := kb.same _ _ (show w.heap.size ≤ B + 1 by omega) hl3 rfl
    have hk4 := kb.same _ _ (show w.heap.size ≤ B by omega) hk3 rfl
    have hr := run_endRound (P := P) none hl4
    rw [hrec] at hr
    refine ⟨_, _, hr, rfl, ⟨hI.putObj _ ib (by omega) hl4 rfl, ?_, (World.putObj_heap_other (by omega)).trans hk4⟩, hKt pa (hKt (hKt (hKb _ _ _ _ (by omega) hl2 rfl) pb) (hKb _ _ _ _ (by omega) hl4 rfl))⟩
    rw [hrec]
    exact World.putObj_heap_same (Array.getElem?_eq_some_iff.1 hl4).1
  · rintro e W2 ⟨⟨v, rfl⟩, xs, hs, hi, hl, hk⟩
    have hr := run_endLoop (P := P) hl (by rw [hrec]; simp)
    rw [hrec] at hr
    exact ⟨none, _, hr, hdone B xs _ (by omega) (hS.putObj _ hs (by omega) hl rfl) (hI.putObj _ hi (by omega) hl rfl) ((World.putObj_heap_other (by omega)).trans hk)⟩
/-! ### frames -/
structure FrX where
  at_ : Int
  kind : Int
  v : Value
  d : List Int
def encF (x : FrX) : Array Value := #[.int .i64 x.at_, .agg #[.int .i64 x.kind, x.v]]
def scanN : Nat → List Int → Nat → List (Int × Int × List Int)
  | 0, _, _ => []
  | n + 1, l, p => if (getS (l.drop p)).2.2.2 = 0 then ((p : Int) + (getS (l.drop p)).2.2.1, (getS (l.drop p)).1, (getS (l.drop p)).2.1) :: scanN n l (p + (getS (l.drop p)).2.2.1.toNat) else []
def frD (x : FrX) : Int × Int × List Int := (x.at_, x.kind, x.d)
theorem getS_ok {l : List Int} (ho : octs l) (h : (getS l).2.2.2 = 0) : 8 ≤ (getS l).2.2.1 ∧ (getS l).2.2.1 ≤ l.length := by
  unfold getS at h ⊢
  have hb := num3_lo ho
  split at h
  · cases h
  · split at h
    · cases h
    · split at h
      · cases h
      · split at h
        · cases h
        · split at h
          · rename_i h1 h2 h3 h4 h5
            rw [if_neg h1, if_neg h2, if_neg h3, if_neg h4, if_pos h5]
            dsimp only
            omega
          · cases h
theorem C_lt {W W' : World} {A : Option Addr} {n B : Nat} {k : IntKind} {zs : List Int} (h : Kd.C (Kd.int k) W A n zs) (hb : ∀ ad, A = some ad → 0 < n → ad.block < B) (hB : Below B W W') : Kd.C (Kd.int k) W' A n zs := by
  refine ⟨h.1, h.2.1, fun hn => ?_⟩
  obtain ⟨ad, e, hc⟩ := h.2.2 hn
  refine ⟨ad, e, fun j p hj => ?_⟩
  obtain ⟨c, hl, hr, hcell⟩ := hc j p hj
  refine ⟨c, hl, hr, fun i u hu => (hB.cell (p := ad.add (j * (Kd.int k).sz + i)) ?_).trans (hcell i u hu)⟩
  rw [show (ad.add (j * (Kd.int k).sz + i)).block = ad.block from by unfold Addr.add; split <;> rfl]
  exact hb ad e hn
/-- What a round keeps for the iterator. -/
structure KpF (n₀ Bs : Nat) (W W' : World) : Prop where
  bel : Below n₀ W W'
  box : W'.heap[Bs]? = W.heap[Bs]?
theorem KpF.refl (n₀ Bs : Nat) (W : World) : KpF n₀ Bs W W := ⟨Below.refl _ _, rfl⟩
theorem KpF.trans {n₀ Bs : Nat} {A B C : World} (h : KpF n₀ Bs A B) (k : KpF n₀ Bs B C) : KpF n₀ Bs A C := ⟨h.bel.trans k.bel, k.box.trans h.box⟩
set_option maxRecDepth 100000 in
set_option maxHeartbeats 4000000 in
theorem frames1_in (n : Nat) (hn : 1 ≤ n) (lp Bs n₀ : Nat) (A : Option Addr) (cap : Nat) (zs : List Int) (hlen : zs.length ≤ 140737488351232) (ho : octs zs) (hcap : zs.length ≤ cap) (J : List FrX → World → Prop) (B1 : Nat) (hJ : AbidesFrom B1 J)
    (hY : ∀ pre x W0 W, J pre W0 → Below W0.heap.size W0 W → Kd.R (Kd.int .u8) 5 W W0.heap.size (fun _ => True) x.v x.d → pre.length < zs.length + 1 → YieldAt Fence.wide (n - 1) Try.prog lp (encF x) W fun e W' => e = .returned (.bool true) ∧ J (pre ++ [x]) W' ∧ KpF n₀ Bs W W')
    (W : World) (hBs : Boxed W Bs 32 (.slice A zs.length cap)) (hb : ∀ ad, A = some ad → 0 < zs.length → ad.block < n₀) (hn0 : n₀ ≤ W.heap.size) (hc : Kd.C (Kd.int .u8) W A zs.length zs) (h0 : J [] W) :
    CallsIn Fence.wide n Try.prog 61 #[.func (.yield lp) #[] #[], .pointer (some ⟨Bs, 0, none⟩)] W fun e W' => (∃ v, e = .returned v) ∧ ∃ xs, xs.map frD = scanN (zs.length + 1) zs 0 ∧ J xs W' := by
  have hBs0 := hBs.cell
  have HBs := Lib.hid hBs
  have HC := Aside0.mk hc
  clear hBs hc
  refine callsIn_of_wp Try.func61 rfl trivial ?_ rfl
  simp only [Try.ntmps61, List.size_toArray, List.length_cons, List.length_nil, Nat.reduceAdd, Nat.reduceSub, Array.replicate_succ, Array.replicate_zero, List.push_toArray, List.append_toArray, List.nil_append, List.cons_append]
  gi_wp2
  gi_loopw [3] (fun i wr => ∃ k : Nat, k ≤ zs.length ∧ i = .int .i64 (k : Int) ∧ ∃ xs : List FrX, xs.map frD ++ scanN (zs.length + 1 - xs.length) zs k = scanN (zs.length + 1) zs 0 ∧ xs.length * 8 ≤ k ∧ J xs wr ∧ KpF n₀ Bs W wr)
    (fun i _ => zs.length - (intOf i).toNat)
  case atStart => exact ⟨0, Nat.zero_le _, by simp, [], by simp, by simp, h0, KpF.refl _ _ _⟩
  case round =>
    obtain ⟨k, hk, rfl, xs, hxs, hx8, hJs, hnx⟩ := hrel
    have hBs' : wr.cell? ⟨Bs, 0, none⟩ = some (.slice A zs.length cap) := Boxed.cell (hnx.box.trans HBs.out)
    obtain ⟨i0, hi0, _, hsz, _⟩ := info_parts info5
    have hT := cut_from (P := Try.prog) 32 5 .i64 Try.underlying32 hi0 1 hsz A zs.length cap (k : Int) (by omega) (by omega)
    have hRT := Kd.C_drop (m := k) (c := cap) (C_lt HC.out hb hnx.bel) (by omega) hcap
    have lT : (zs.drop k).length = zs.length - k := by simp
    rw [Int.toNat_natCast, ← lT] at hT
    obtain ⟨AT, hAT⟩ : ∃ B : Option Addr, (if cap = k then A else A.map (·.add (k * 1))) = B := ⟨_, rfl⟩
    replace hRT : Kd.C (Kd.int .u8) wr AT (zs.drop k).length (zs.drop k) := by rw [← hAT]; exact hRT
    rw [hAT] at hT
    obtain ⟨cT, hcT⟩ : ∃ c, cap - k = c := ⟨_, rfl⟩
    rw [hcT] at hT
    obtain ⟨Z, hZ⟩ : ∃ Z, zs.drop k = Z := ⟨_, rfl⟩
    rw [hZ] at hT hRT lT
    have hZo : octs Z := by rw [← hZ]; exact fun x hx => ho x (List.mem_of_mem_drop hx)
    have hget := get_is (l := Z) (by omega) hZo
    have hok := getS_ok hZo
    have hscan : ∀ m, scanN (m + 1) zs k = if (getS Z).2.2.2 = 0 then ((k : Int) + (getS Z).2.2.1, (getS Z).1, (getS Z).2.1) :: scanN m zs (k + (getS Z).2.2.1.toNat) else [] := fun m => by rw [scanN, hZ]
    generalize getS Z = G at hget hok hscan
    obtain ⟨gk, gd, gn, gx⟩ := G
    dsimp only at hok hscan
    have HGet := Aside0.mk (seal_Get.calls AT cT Z gk gd gn gx wr hRT (by omega) hget)
    have HLT := Aside0.mk lT
    clear hget hRT hAT hcT hi0 hsz hZo lT
    gi_wp2_with fail
    refine ⟨trivial, (callsIn_wide.2 HGet.out).mono ?_⟩
    rintro e w2 ⟨v2, rfl, ho2, hb2⟩
    have hwr := hnx.bel.size
    have hBlt : Bs < wr.heap.size := (Array.getElem?_eq_some_iff.1 (hnx.box.trans HBs.out)).1
    obtain ⟨A2, c2, rfl⟩ := Kd.R_slice ho2
    have hJ2 := hJ xs wr w2 none hJs (grown_of_below hb2 none) (fun r e => by cases e)
    have hJ3 := hJ xs w2 _ none hJ2 (World.grownBy_alloc w2 (.cells #[.int .i64 gk, .slice A2 gd.length c2] 38) none) (fun r e => by cases e)
    have HO3 := Aside0.mk (Kd.R_alloc ho2 (.cells #[.int .i64 gk, .slice A2 gd.length c2] 38))
    have hk3 : KpF n₀ Bs W (w2.alloc (.cells #[.int .i64 gk, .slice A2 gd.length c2] 38)) := hnx.trans ⟨(hb2.mono (by omega)).trans ((below_alloc (Below.refl w2.heap.size w2) _).mono (by have := hb2.size; omega)), (Below.heap_alloc _ _ _ (by have := hb2.size; omega)).trans (hb2.block _ hBlt)⟩
    have hm : zs.length + 1 - xs.length = (zs.length - xs.length) + 1 := by omega
    rw [hm, hscan] at hxs
    have hb3 := below_step hb2 (below_alloc (Below.refl w2.heap.size w2) (.cells #[.int .i64 gk, .slice A2 gd.length c2] 38))
    clear ho2 hb2 hJ2 HGet hT hscan hBs'
    by_cases hx : gx = 0
    · subst hx
      rw [if_pos rfl] at hxs
      obtain ⟨h8, hle⟩ := hok rfl
      have hlt := HLT.out
      obtain ⟨m, rfl⟩ := Int.eq_ofNat_of_zero_le (show 0 ≤ gn by omega)
      have hwp : IntKind.i64.wrap ((k : Int) + (m : Int)) = (k : Int) + (m : Int) := by rw [i64_w]; unfold wrap64; omega
      obtain ⟨fn, tmps, assign, body, hy, hR⟩ := hY xs ⟨(k : Int) + (m : Int), gk, .slice A2 gd.length c2, gd⟩ wr _ hJs hb3 HO3.out (by omega)
      dsimp only [encF] at hy
      have HXS := Lib.hid hxs
      clear hxs hok
      gi_wp2
      refine hR.mono ?_
      rintro e W4 ⟨rfl, hJ4, hk4⟩
      gi_wp2
      go_roundw
      case rel => exact ⟨k + m, by omega, by simp, xs ++ [⟨(k : Int) + (m : Int), gk, .slice A2 gd.length c2, gd⟩], by rw [← HXS.out]; simp [frD], by simp; omega, hJ4, hk3.trans hk4⟩
      case measure => simp [intOf]; omega
    · rw [if_neg hx] at hxs
      have hx1 : (gx != 0) = true := bne_iff_ne.mpr hx
      gi_wp2
      refine ⟨fun f h => (by cases h), ?_⟩
      gi_wp2
      exact bodyPost_ret (results_none rfl _ _ _) rfl ⟨⟨_, rfl⟩, xs, by simpa using hxs, hJ3⟩
set_option maxHeartbeats 1000000 in
theorem frames_in (n : Nat) (a : Option Addr) (len cap : Nat) (w : World) :
    CallsIn Fence.wide n Try.prog 53 #[.slice a len cap] w fun e w' => e = .returned (.func (.func 61) #[] #[.pointer (some ⟨w.heap.size, 0, none⟩)]) ∧ w' = w.alloc (.cells #[.slice a len cap] 32) := by
  refine callsIn_of_wp Try.func53 rfl trivial ?_ rfl
  simp only [Try.ntmps53, List.size_toArray, List.length_cons, List.length_nil, Nat.reduceAdd, Nat.reduceSub, Array.replicate_succ, Array.replicate_zero, List.push_toArray, List.append_toArray, List.nil_append, List.cons_append]
  gi_wp2
  go_ret
  exact ⟨rfl, rfl⟩
theorem frames_seq (n : Nat) (hn : 1 ≤ n) (Bs n₀ : Nat) (A : Option Addr) (cap : Nat) (zs : List Int) (hlen : zs.length ≤ 140737488351232) (ho : octs zs) (hcap : zs.length ≤ cap) (w : World)
    (hcell : Boxed w Bs 32 (.slice A zs.length cap)) (hb : ∀ ad, A = some ad → 0 < zs.length → ad.block < n₀) (hn0 : n₀ ≤ w.heap.size) (hc : Kd.C (Kd.int .u8) w A zs.length zs) :
    SeqV Fence.wide n Try.prog 61 #[.pointer (some ⟨Bs, 0, none⟩)] encF (fun x W0 W => Kd.R (Kd.int .u8) 5 W W0.heap.size (fun _ => True) x.v x.d) (KpF n₀ Bs) (fun xs _ => xs.map frD = scanN (zs.length + 1) zs 0) (zs.length + 1) w := fun l J W hW hJ hY h0 =>
  frames1_in n hn l Bs n₀ A cap zs hlen ho hcap J _ hJ hY W ((hW.block Bs hcell.lt).trans hcell) hb (Nat.le_trans hn0 hW.size) (Kd.C_below hc hW) h0
/-! ### Scan -/
def fr38 (x : FrX) : S38 := ⟨x.kind, x.d⟩
def lastAt (pre : List FrX) : Int := (pre.getLast?.map FrX.at_).getD 0
theorem lastAt_snoc (pre : List FrX) (x : FrX) : lastAt (pre ++ [x]) = x.at_ := by simp [lastAt]
theorem S_cells {α : Type} {d : Kd α} {e base : Nat} {ok : Nat → Prop} {w w1 : World} {v : Value} {xs : List α} {row : Option Nat} (h : Kd.S d e w base ok v xs) (hg : w.grownBy w1 row) (hr : ∀ r, row = some r → ∃ o : Obj, w.heap[r]? = some o ∧ o.isCells = false) : Kd.S d e w1 base ok v xs :=
  Kd.S_mono (Kd.S_grown (Kd.S_bound h) hg (fun k hk e => by
    obtain ⟨_, _, _, q, _, cells, hc⟩ := hk
    obtain ⟨o, ho, hn⟩ := hr k e.symm
    rw [hc] at ho
    cases ho
    cases hn)) (fun _ hk => hk.1)
theorem R_cells {α : Type} {d : Kd α} {e base : Nat} {ok : Nat → Prop} {w w1 : World} {v : Value} {xs : List α} {row : Option Nat} (h : Kd.R d e w base ok v xs) (hg : w.grownBy w1 row) (hr : ∀ r, row = some r → ∃ o : Obj, w.heap[r]? = some o ∧ o.isCells = false) : Kd.R d e w1 base ok v xs :=
  Kd.R_mono (Kd.R_grown (Kd.R_bound h) hg (fun k hk e => by
    obtain ⟨_, _, _, q, _, cells, hc⟩ := hk
    obtain ⟨o, ho, hn⟩ := hr k e.symm
    rw [hc] at ho
    cases ho
    cases hn)) (fun _ hk => hk.1)
theorem B_cells {w w1 : World} {g : Nat} {cs : Array Value} {t : TypeId} {fr : Nat × Nat} {row : Option Nat} (h : w.heap[g]? = some (.cells cs t fr)) (hg : w.grownBy w1 row) (hr : ∀ r, row = some r → ∃ o : Obj, w.heap[r]? = some o ∧ o.isCells = false) : w1.heap[g]? = some (.cells cs t fr) :=
  (hg.block g (Array.getElem?_eq_some_iff.1 h).1 (fun e => by
    obtain ⟨o, ho, hn⟩ := hr g e.symm
    rw [h] at ho
    cases ho
    cases hn)).trans h
structure ScanInv (w0 : World) (sv : Value) (pre : List FrX) (W : World) : Prop where
  row : ∃ v, W.heap[w0.heap.size]? = some (.cells #[v] 61 (0, 0)) ∧ Kd.S k38 38 W w0.heap.size (fun _ => True) v (pre.map fr38)
  good : W.heap[w0.heap.size + 1]? = some (.cells #[.int .i64 (lastAt pre)] 3 (0, 0))
  box : W.heap[w0.heap.size + 1 + 1]? = some (.cells #[sv] 32 (0, 0))
  bel : Below w0.heap.size w0 W
theorem scanInv_own {w0 : World} {sv : Value} {B : Nat} (hB : w0.heap.size ≤ B) : OwnFrom B (ScanInv w0 sv) := by
  rintro s X Y row ⟨⟨v, h1, h2⟩, h3, h4, h5⟩ hg hr
  have hr' : ∀ r, row = some r → ∃ o : Obj, X.heap[r]? = some o ∧ o.isCells = false := fun r e => (hr r e).2
  exact ⟨⟨v, B_cells h1 hg hr', S_cells h2 hg hr'⟩, B_cells h3 hg hr', B_cells h4 hg hr', h5.grown hg h5.size (fun k e => Nat.le_trans hB (hr k e).1)⟩
structure ScanMid (w0 : World) (sv : Value) (A0 : Nat → FrX → Act) (p : List FrX × FrX × Act) (W : World) : Prop where
  row : ∃ v N0, W.heap[w0.heap.size]? = some (.cells #[v] 61 (0, 0)) ∧ Kd.S k38 38 W w0.heap.size (fun k => k < N0) v (p.1.map fr38) ∧ Kd.R (Kd.int .u8) 5 W w0.heap.size (fun k => N0 ≤ k) p.2.1.v p.2.1.d
  good : W.heap[w0.heap.size + 1]? = some (.cells #[.int .i64 (lastAt p.1)] 3 (0, 0))
  box : W.heap[w0.heap.size + 1 + 1]? = some (.cells #[sv] 32 (0, 0))
  bel : Below w0.heap.size w0 W
  cell : ∃ g, w0.heap.size + 1 + 1 < g ∧ p.2.2 = A0 g p.2.1 ∧ W.heap[g]? = some (.cells #[.int .i64 p.2.1.kind, p.2.1.v] 38 (0, 0))
theorem scanMid_own {w0 : World} {sv : Value} {A0 : Nat → FrX → Act} {B : Nat} (hB : w0.heap.size ≤ B) : OwnFrom B (ScanMid w0 sv A0) := by
  rintro s X Y row ⟨⟨v, N0, h1, h2, h2b⟩, h3, h4, h5, ⟨g, h6, h7, h8⟩⟩ hg hr
  have hr' : ∀ r, row = some r → ∃ o : Obj, X.heap[r]? = some o ∧ o.isCells = false := fun r e => (hr r e).2
  exact ⟨⟨v, N0, B_cells h1 hg hr', S_cells h2 hg hr', R_cells h2b hg hr'⟩, B_cells h3 hg hr', B_cells h4 hg hr', h5.grown hg h5.size (fun k e => Nat.le_trans hB (hr k e).1), ⟨g, h6, h7, B_cells h8 hg hr'⟩⟩
theorem run_loadVar_one {P : Program} (w : World) (g : Nat) (t ty : TypeId) (v : Value) (d : TypeDesc) (hg : w.heap[g]? = some (.cells #[v] t (0, 0))) (hu : P.underlying ty = some d) (hd : (match d with | .struct _ | .array _ _ => true | _ => false) = false) : (loadVar ty ⟨g, 0, none⟩).run P w = .ok v w := by
  have hagg : (isAgg ty).run P w = .ok false w := by
    unfold isAgg
    rw [Sem.run_bind, run_underlying hu w]
    cases d <;> simp_all
  simp [loadVar, Sem.run_bind, hagg, run_load, Boxed.cell hg]
theorem results_vv {P : Program} {fn : Func} {p p' : Tmp} {ty ty' : TypeId} (h : fn.results = #[.cell p ty, .cell p' ty']) (tmps : Array Value) (w : World) (g g' : Nat) (t t' : TypeId) (v v' : Value) (d d' : TypeDesc)
    (hp : tmps.getD p undef = .pointer (some ⟨g, 0, none⟩)) (hg : w.heap[g]? = some (.cells #[v] t (0, 0))) (hu : P.underlying ty = some d) (hd : (match d with | .struct _ | .array _ _ => true | _ => false) = false)
    (hp' : tmps.getD p' undef = .pointer (some ⟨g', 0, none⟩)) (hg' : w.heap[g']? = some (.cells #[v'] t' (0, 0))) (hu' : P.underlying ty' = some d') (hd' : (match d' with | .struct _ | .array _ _ => true | _ => false) = false) :
    (results fn tmps).run P w = .ok (.tuple #[v, v']) w := by
  have e1 : tmps[p]?.getD undef = .pointer (some ⟨g, 0, none⟩) := by simpa using hp
  have e2 : tmps[p']?.getD undef = .pointer (some ⟨g', 0, none⟩) := by simpa using hp'
  simp [results, h, e1, e2, asAddr, run_loadVar_one w g t ty v d hg hu hd, run_loadVar_one w g' t' ty' v' d' hg' hu' hd']
theorem scan_infoF : (Try.prog.info? 38).map (fun i => (i.zero, i.size, i.bytes)) = some (some (.agg #[(.int .i64 0), (.slice none 0 0)]), 2, 32) := by kernel_rfl
/-- append(v, x) inside a round of a loop over a function (see Kd.S_append_step). -/
theorem S_append_in {n l : Nat} {P : Program} {ops : Array Oper} {rest : List Oper} {o : Oper} {a : Act} {Q : Exit → Act → World → Prop} {α : Type} (d : Kd α) {w0 W : World} (base : Nat) (hgd : o.guard = none) (s x : Operand) (t e : TypeId) (z : Value) (bytes : Nat)
    (ho : o.op = .call { callee := .builtin .append, args := #[s, x], argTypes := #[t, t] })
    (ht : P.underlying t = some (.slice e)) (hinfo : (P.info? e).map (fun i => (i.zero, i.size, i.bytes)) = some (some z, d.sz, bytes)) (hz : z.cells.size = d.sz) (hs0 : 0 < d.sz) (hb0 : 0 < bytes)
    (v : Value) (xs : List α) (p : α) (cs : List Value) (ok okp : Nat → Prop) (hs : a.eval s = v) (hx : a.eval x = .slice (some ⟨W.heap.size, 0, none⟩) 1 1) (hp : d.M W base okp p cs) (hokp : ∀ k, okp k → ok k ∧ some k ≠ v.ownBlock) (hfresh : ∀ k, W.heap.size ≤ k → ok k)
    (HO : Kd.S d e W base (fun k => ok k ∧ ¬ okp k) v xs) (HB : Below base w0 W) (hbase : base ≤ W.heap.size) (hl : (xs.length + 1) * bytes ≤ 140737488355328)
    (h : ∀ v1 w1, Kd.S d e w1 base ok v1 (xs ++ [p]) → Below base w0 w1 → W.grownBy w1 v.ownBlock → (v1.ownBlock = v.ownBlock ∨ ∃ b, v1.ownBlock = some b ∧ W.heap.size ≤ b) → wpListIn (Fence.wide.inRound l) n P ops Q rest (a.put o.dst v1) w1) :
    wpListIn (Fence.wide.inRound l) n P ops Q (o :: rest) a (W.alloc (.cells cs.toArray e)) := by
  have hw : Region.wanted o (yielded ops a.tmps) = true := by simp [Region.wanted, hgd]
  refine wpListIn_plain hgd fun K hK => wideRound_wpIn (fun c e => by rw [ho] at e; cases e) ?_
  have := Kd.S_append_step (Kc := K) (Q := Q) (ops := ops) d base hw s x t e z bytes ho ht hinfo hz hs0 hb0 v xs p cs ok okp hs hx hp hokp hfresh HO HB hbase hl (fun v1 w1 a b c e => hK _ _ (h v1 w1 a b c e))
  rwa [if_pos hw] at this
attribute [local go_sem] Oper.semAt_some
set_option maxRecDepth 100000 in
set_option maxHeartbeats 4000000 in
theorem scan_in (A : Option Addr) (cap : Nat) (zs : List Int) (hsz : zs.length ≤ 1099511627776) (hlen : zs.length ≤ 140737488351232) (ho : octs zs) (hcap : zs.length ≤ cap) (w : World) (hc : Kd.C (Kd.int .u8) w A zs.length zs) :
    Calls Try.prog 34 #[.slice A zs.length cap] w fun e w' => ∃ (v : Value) (xs : List FrX), xs.map frD = scanN (zs.length + 1) zs 0 ∧ e = .returned (.tuple #[v, .int .i64 (lastAt xs)]) ∧ Kd.S k38 38 w' w.heap.size (fun _ => True) v (xs.map fr38) ∧ Below w.heap.size w w' := by
  refine (callsIn_wide (n := 3)).1 ?_
  have HC := Aside0.mk hc
  clear hc
  refine callsIn_of_wp_marks Try.func34 rfl trivial ?_ rfl
  simp only [Try.ntmps34, List.size_toArray, List.length_cons, List.length_nil, Nat.reduceAdd, Nat.reduceSub, Array.replicate_succ, Array.replicate_zero, List.push_toArray, List.append_toArray, List.nil_append, List.cons_append]
  gi_wp2_with fail
  refine ⟨trivial, (frames_in 2 _ _ _ _).mono ?_⟩
  rintro e w' ⟨rfl, rfl⟩
  gi_wp2_with fail
  have h1 := World.alloc_heap_new w (.cells #[.slice none 0 0] 61)
  obtain ⟨wr, hwr⟩ : ∃ wr, ((w.alloc (.cells #[.slice none 0 0] 61)).alloc (.cells #[.int .i64 0] 3)).alloc (.cells #[.slice A zs.length cap] 32) = wr := ⟨_, rfl⟩
  have szr : wr.heap.size = w.heap.size + 1 + 1 + 1 := by rw [← hwr]; simp
  have belr : Below w.heap.size w wr := by rw [← hwr]; exact (((Below.refl _ w).alloc (Nat.le_refl _) _).alloc (by simp) _).alloc (by simp; omega) _
  have br0 : wr.heap[w.heap.size]? = some (.cells #[.slice none 0 0] 61 (0, 0)) := by
    rw [← hwr]
    exact (Below.heap_alloc _ _ _ (by simp; omega)).trans ((Below.heap_alloc _ _ _ (by simp)).trans h1)
  have br1 : wr.heap[w.heap.size + 1]? = some (.cells #[.int .i64 0] 3 (0, 0)) := by
    rw [← hwr]
    have := World.alloc_heap_new (w.alloc (.cells #[.slice none 0 0] 61)) (.cells #[.int .i64 0] 3)
    rw [World.size_alloc] at this
    exact (Below.heap_alloc _ _ _ (by simp)).trans this
  have br2 : wr.heap[w.heap.size + 1 + 1]? = some (.cells #[.slice A zs.length cap] 32 (0, 0)) := by
    rw [← hwr]
    have := World.alloc_heap_new ((w.alloc (.cells #[.slice none 0 0] 61)).alloc (.cells #[.int .i64 0] 3)) (.cells #[.slice A zs.length cap] 32)
    simpa using this
  rw [hwr]
  clear h1 hwr
  have hcr := Kd.C_below HC.out belr
  have hba : ∀ ad, A = some ad → 0 < zs.length → ad.block < w.heap.size := fun ad e h => by
    obtain ⟨ad', e', hc'⟩ := Kd.at_int HC.out 0 (by omega) (by omega)
    rw [e] at e'
    cases e'
    have := World.block_lt_of_cell? w _ hc'
    rwa [show (ad.add ((0 : Int)).toNat).block = ad.block from by unfold Addr.add; split <;> rfl] at this
  refine rangeV (N := zs.length + 1) (encs := encF) (V := fun x W0 W => Kd.R (Kd.int .u8) 5 W W0.heap.size (fun _ => True) x.v x.d) (Kp := KpF w.heap.size (w.heap.size + 1 + 1)) (S := fun xs _ => xs.map frD = scanN (zs.length + 1) zs 0) (w0 := wr) rfl (by omega) (gf := 61) (lb := #[.pointer (some ⟨w.heap.size + 1 + 1, 0, none⟩)]) rfl trivial (enters_of Try.func61 (by kernel_rfl) rfl)
    (frames_seq (3 - 1) (by omega) (w.heap.size + 1 + 1) w.heap.size A cap zs hlen ho hcap wr br2 hba (by omega) hcr) (fun h k => h.trans k)
    (fun W l o o' hl hoo hcf => ⟨(Below.refl w.heap.size W).grown (grownBy_putObj' W l o') (by have := (Array.getElem?_eq_some_iff.1 hoo).1; omega) (fun k e => by cases e; omega), World.putObj_heap_other (by omega)⟩)
    (Below.refl _ _) (fun _ => rfl) (ScanInv w (.slice A zs.length cap)) (scanInv_own (by omega))
    ⟨⟨_, br0, Kd.S_nil _ _ _ _ _⟩, br1, br2, belr⟩
    (ScanMid w (.slice A zs.length cap) (fun g x => { tmps := #[.slice A zs.length cap, undef, .pointer (some ⟨w.heap.size, 0, none⟩), .pointer (some ⟨w.heap.size + 1, 0, none⟩), .int .i64 x.at_, .pointer (some ⟨g, 0, none⟩), .slice A zs.length cap, .func (.func 61) #[] #[.pointer (some ⟨w.heap.size + 1 + 1, 0, none⟩)], .int .i64 x.at_, .agg #[.int .i64 x.kind, x.v], undef, undef, undef, undef, undef, undef, undef], defers := [] }))
    (scanMid_own (by omega)) (fun _ _ _ _ hs _ _ => hs) ?assign ?body ?done
  case assign =>
    intro l pre x W0 W K hi hbel hv hK
    obtain ⟨xa, xk, xv, xd⟩ := x
    dsimp only at hv
    obtain ⟨A2, c2, rfl⟩ := Kd.R_slice hv
    have hM : ScanMid w (.slice A zs.length cap) (fun g x => { tmps := #[.slice A zs.length cap, undef, .pointer (some ⟨w.heap.size, 0, none⟩), .pointer (some ⟨w.heap.size + 1, 0, none⟩), .int .i64 x.at_, .pointer (some ⟨g, 0, none⟩), .slice A zs.length cap, .func (.func 61) #[] #[.pointer (some ⟨w.heap.size + 1 + 1, 0, none⟩)], .int .i64 x.at_, .agg #[.int .i64 x.kind, x.v], undef, undef, undef, undef, undef, undef, undef], defers := [] }) (pre, ⟨xa, xk, .slice A2 xd.length c2, xd⟩, { tmps := #[.slice A zs.length cap, undef, .pointer (some ⟨w.heap.size, 0, none⟩), .pointer (some ⟨w.heap.size + 1, 0, none⟩), .int .i64 xa, .pointer (some ⟨W.heap.size, 0, none⟩), .slice A zs.length cap, .func (.func 61) #[] #[.pointer (some ⟨w.heap.size + 1 + 1, 0, none⟩)], .int .i64 xa, .agg #[.int .i64 xk, .slice A2 xd.length c2], undef, undef, undef, undef, undef, undef, undef], defers := [] })
        (W.alloc (.cells #[.int .i64 xk, .slice A2 xd.length c2] 38)) := by
      obtain ⟨⟨v, r1, r2⟩, r3, r4, r5⟩ := hi
      have k0 := (Array.getElem?_eq_some_iff.1 r4).1
      have k1 := hbel.size
      have al : ∀ {g : Nat} {o : Obj}, W0.heap[g]? = some o → (W.alloc (.cells #[.int .i64 xk, .slice A2 xd.length c2] 38)).heap[g]? = some o := fun h => (Below.heap_alloc _ _ _ (by have := (Array.getElem?_eq_some_iff.1 h).1; omega)).trans ((hbel.block _ (Array.getElem?_eq_some_iff.1 h).1).trans h)
      refine ⟨⟨v, W0.heap.size, al r1, ?_, ?_⟩, al r3, al r4, below_alloc (r5.trans (hbel.mono r5.size)) _, ⟨W.heap.size, by omega, rfl, World.alloc_heap_new W _⟩⟩
      · exact Kd.S_alloc (Kd.S_mono (Kd.S_old r2 hbel) (fun _ hk => hk.2)) _
      · exact Kd.R_mono (Kd.R_lower (Kd.R_bound (Kd.R_alloc hv _)) r5.size) (fun _ hk => hk.2.1)
    have hK2 := hK _ _ ⟨by simp, fun i o hB hi ho => (Below.heap_alloc _ _ _ (Array.getElem?_eq_some_iff.1 hi).1).trans hi⟩ ⟨(below_alloc (Below.refl W.heap.size W) _).mono (by have := hi.bel.size; have := hbel.size; omega), Below.heap_alloc _ _ _ (by have := (Array.getElem?_eq_some_iff.1 hi.box).1; have := hbel.size; omega)⟩ hM
    have HK2 := Aside0.mk hK2
    clear hK2 hM hK hi hbel hv
    simp only [encF]
    gi_wp2
    exact HK2.out
  case body =>
    intro l pre x a' W hM hlt
    obtain ⟨⟨v, N0, r1, r2, r3⟩, r4, r5, r6, ⟨g, g1, e1, g3⟩⟩ := hM
    dsimp only at r1 r2 r3 r4 r5 r6 e1 g3
    subst e1
    obtain ⟨xa, xk, xv, xd⟩ := x
    dsimp only at r3 g3 ⊢
    obtain ⟨A1, c1, rfl⟩ := Kd.S_slice r2
    obtain ⟨A2, c2, rfl⟩ := Kd.R_slice r3
    rw [List.length_map] at r1 r2
    have q0 := Boxed.cell r1
    have q1 := Boxed.cell r4
    have q2 := (blk_cell g3 0).trans rfl
    have q3 := (blk_cell g3 1).trans rfl
    have z0 := blk_frozen r1 0
    have z1 := blk_frozen r4 0
    have z2 := blk_frozen g3 0
    have z3 := blk_frozen g3 1
    have R2 := Lib.hid r2
    have R3 := Lib.hid r3
    have R6 := Lib.hid r6
    clear r2 r3 r6
    gi_wp2_with (gi_at_builtin; go_loud (refine S_append_in k38 (w0 := w) w.heap.size rfl (.tmp 10) (.tmp 12) 61 38 (.agg #[.int .i64 0, .slice none 0 0]) 32 rfl Try.underlying61 scan_infoF rfl (by decide) (by omega) (.slice A1 pre.length c1) (pre.map fr38) (⟨xk, xd⟩ : S38) [.int .i64 xk, .slice A2 xd.length c2] (fun _ => True) (fun k => N0 ≤ k) rfl rfl ?aP ?aK ?aF ?aO ?aB ?aS ?aL ?_))
    case aP => exact k38_mkM _ _ _ (⟨xk, xd⟩ : S38) R3.out
    case aK => exact fun k hk => ⟨trivial, fun e => by have := (Kd.S_R R2.out).1 k e.symm; omega⟩
    case aF => exact fun _ _ => trivial
    case aO => exact Kd.S_mono R2.out (fun k hk => ⟨trivial, by omega⟩)
    case aB => exact R6.out
    case aS => exact R6.out.size
    case aL => rw [List.length_map]; omega
    intro v1 w1 hS hB hg hor
    obtain ⟨A3, c3, rfl⟩ := Kd.S_slice hS
    rw [List.length_append, List.length_map, List.length_singleton] at hS
    rw [List.length_append, List.length_map, List.length_singleton]
    have hty := Kd.S_typed R2.out
    have b0 := blk_grown r1 hg (fun e => by obtain ⟨cc, hc⟩ := hty _ e.symm; rw [r1] at hc; cases hc)
    have b1 := blk_grown r4 hg (fun e => by obtain ⟨cc, hc⟩ := hty _ e.symm; rw [r4] at hc; cases hc)
    have b2 := blk_grown r5 hg (fun e => by obtain ⟨cc, hc⟩ := hty _ e.symm; rw [r5] at hc; cases hc)
    clear q0 q1 q2 q3 z0 z1 z2 z3
    have c0 := Boxed.cell b0
    have c1 := Boxed.cell b1
    have y0 := blk_frozen b0 0
    have y1 := blk_frozen b1 0
    have HS := Lib.hid hS
    have HB1 := Lib.hid hB
    have HG := Lib.hid hg
    clear hS hB hg hor
    gi_wp2
    have hsz := HG.out.size
    have hsw := R6.out.size
    have hbl : Below w.heap.size W w1 := (Below.refl w.heap.size W).grown HG.out (Nat.le_trans hsw (Nat.le_refl _)) (fun k e => Kd.S_base R2.out k e)
    have s0 := blk_put (cs' := #[.slice A3 (pre.length + 1) c3]) b0 0 (.slice A3 (pre.length + 1) c3) rfl
    have s1 := blk_far b1 (p := ⟨w.heap.size, 0, none⟩) (by dsimp only; omega) (.slice A3 (pre.length + 1) c3)
    have s2 := blk_far b2 (p := ⟨w.heap.size, 0, none⟩) (by dsimp only; omega) (.slice A3 (pre.length + 1) c3)
    have t0 := blk_far s0 (p := ⟨w.heap.size + 1, 0, none⟩) (by dsimp only; omega) (.int .i64 xa)
    have t1 := blk_put (cs' := #[.int .i64 xa]) s1 0 (.int .i64 xa) rfl
    have t2 := blk_far s2 (p := ⟨w.heap.size + 1, 0, none⟩) (by dsimp only; omega) (.int .i64 xa)
    refine ⟨⟨by simpa using hsz, fun i o hi ho hn => ?_⟩, ⟨(hbl.setCell (p := ⟨w.heap.size, 0, none⟩) (Nat.le_refl _) _).setCell (p := ⟨w.heap.size + 1, 0, none⟩) (Nat.le_succ _) _, t2.trans r5.symm⟩,
      ⟨⟨_, t0, ?_⟩, by rw [lastAt_snoc]; exact t1, t2, (HB1.out.setCell (p := ⟨w.heap.size, 0, none⟩) (Nat.le_refl _) _).setCell (p := ⟨w.heap.size + 1, 0, none⟩) (Nat.le_succ _) _⟩⟩
    · refine (Below.heap_setCell _ _ _ i (by dsimp only; omega)).trans ((Below.heap_setCell _ _ _ i (by dsimp only; omega)).trans (blk_grown ho HG.out (fun e => ?_)))
      obtain ⟨cc, hc⟩ := hty _ e.symm
      rw [ho] at hc
      cases hc
      cases hn
    · rw [List.map_append]
      exact Kd.S_set (Kd.S_set HS.out b0 (by decide) 0 _) s1 (by decide) 0 _
  case done =>
    rintro D xs W hD hxs ⟨⟨v, r1, r2⟩, r4, r5, r6⟩ hK
    obtain ⟨A1, c1, rfl⟩ := Kd.S_slice r2
    rw [List.length_map] at r1 r2
    have q0 := Boxed.cell r1
    have q1 := Boxed.cell r4
    have z0 := blk_frozen r1 0
    have z1 := blk_frozen r4 0
    have R2 := Lib.hid r2
    have R6 := Lib.hid r6
    have HK := Lib.hid hK
    clear r2 r6 hK
    gi_wp2
    gi_region
    have s0 := blk_put (cs' := #[.slice A1 xs.length c1]) r1 0 (.slice A1 xs.length c1) rfl
    have s1 := blk_far r4 (p := ⟨w.heap.size, 0, none⟩) (by dsimp only; omega) (.slice A1 xs.length c1)
    have t0 := blk_far s0 (p := ⟨w.heap.size + 1, 0, none⟩) (by dsimp only; omega) (.int .i64 (lastAt xs))
    have t1 := blk_put (cs' := #[.int .i64 (lastAt xs)]) s1 0 (.int .i64 (lastAt xs)) rfl
    have hS := Kd.S_set (Kd.S_set R2.out r1 (by decide) 0 (.slice A1 xs.length c1)) s1 (by decide) 0 (.int .i64 (lastAt xs))
    have hB := ((R6.out.setCell (p := ⟨w.heap.size, 0, none⟩) (Nat.le_refl _) (.slice A1 xs.length c1)).setCell (p := ⟨w.heap.size + 1, 0, none⟩) (Nat.le_succ _) (.int .i64 (lastAt xs))).drew
    have hK2 : ((W.setCell ⟨w.heap.size, 0, none⟩ (.slice A1 xs.length c1)).setCell ⟨w.heap.size + 1, 0, none⟩ (.int .i64 (lastAt xs))).drew.heap[D]? = some (Obj.deferred (some [])) := (Below.heap_setCell _ _ _ D (by dsimp only; omega)).trans ((Below.heap_setCell _ _ _ D (by dsimp only; omega)).trans HK.out)
    gi_wp2
    generalize hW2 : ((W.setCell ⟨w.heap.size, 0, none⟩ (.slice A1 xs.length c1)).setCell ⟨w.heap.size + 1, 0, none⟩ (.int .i64 (lastAt xs))).drew = W2 at hB hK2 ⊢
    have u0 : W2.heap[w.heap.size]? = some (.cells #[.slice A1 xs.length c1] 61 (0, 0)) := by rw [← hW2]; exact t0
    have u1 : W2.heap[w.heap.size + 1]? = some (.cells #[.int .i64 (lastAt xs)] 3 (0, 0)) := by rw [← hW2]; exact t1
    have uS : Kd.S k38 38 W2 w.heap.size (fun _ => True) (.slice A1 xs.length c1) (xs.map fr38) := by rw [← hW2]; exact Kd.S_drew hS
    refine ⟨by simp, .inl ⟨_, _, rfl, run_takeDeferred hK2, ?_⟩⟩
    exact ⟨_, results_vv rfl _ _ w.heap.size (w.heap.size + 1) _ _ _ _ _ _ rfl ((World.putObj_heap_other (by omega)).trans u0) Try.underlying61 rfl rfl ((World.putObj_heap_other (by omega)).trans u1) Try.underlying3 rfl, _, xs, hxs, rfl, S_cells uS (grownBy_putObj' W2 D _) (fun r e => by cases e; exact ⟨_, hK2, rfl⟩), hB.trans (belowK_b (w := w) (Nat.le_refl _) W2 D _ _ (by omega) hK2 rfl rfl)⟩
def scanRows (l : List Int) : List (Int × Int × List Int) := scanN (l.length + 1) l 0
def scanEnd (l : List Int) : Int := ((scanRows l).getLast?.map (·.1)).getD 0

def seal_Scan.f (l0 : List Int) : Option (List S38 × Int) := if l0.length ≤ 1099511627776 ∧ octs l0 then some ((scanRows l0).map (fun t => ⟨t.2.1, t.2.2⟩), scanEnd l0) else none
theorem seal_Scan.calls (A0 : Option Addr) (c0 : Nat) (l0 : List Int) (r1 : List S38) (r2 : Int) (w : World) (hr0 : Kd.C (Kd.int .u8) w A0 l0.length l0) (hc0 : l0.length ≤ c0) (h : seal_Scan.f l0 = some (r1, r2)) :
    Calls Try.prog 34 #[.slice A0 l0.length c0] w fun e w' => ∃ v0_ : Value, e = .returned (.tuple #[v0_, .int .i64 r2]) ∧ Kd.S k38 38 w' w.heap.size (fun _ => True) v0_ r1 ∧ Below w.heap.size w w' := by
  unfold seal_Scan.f at h
  split at h
  case isFalse => cases h
  rename_i hlo
  injection h with h
  injection h with e1 e2
  subst e1 e2
  refine (scan_in A0 c0 l0 hlo.1 (by omega) hlo.2 hc0 w hr0).mono fun e w' ⟨v, xs, hxs, he, hs, hb⟩ => ⟨v, ?_, ?_, hb⟩
  · rw [he]
    unfold scanEnd scanRows
    rw [← hxs, List.getLast?_map, Option.map_map]
    rfl
  · unfold scanRows
    rw [← hxs, List.map_map]
    exact hs

end Go.Proofs.Ytchmncgnaiiijaa.V
