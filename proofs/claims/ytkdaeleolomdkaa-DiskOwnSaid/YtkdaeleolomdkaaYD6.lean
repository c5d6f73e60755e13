import Derived.Test.YtkdaeleolomdkaaYD0
namespace Go.Proofs.Ytkdaeleolomdkaa.D
open Go.RowKit Go.Proofs.YtkdaeleolomdkaaW.PrintWords Go.Proofs.YtkdaeleolomdkaaW.PrintLast Go.Proofs.YtkdaeleolomdkaaW.PrintMore
attribute [local go_sem] max2_int min2_int max_two min_two max_three min_three max_four min_four   -- for this text's walks alone
set_option linter.unusedVariables false
set_option linter.unusedSimpArgs false
theorem cut_three {P : Program} (t e : TypeId) {i : TypeInfo} (ht : P.underlying t = some (.slice e)) (hi : P.info? e = some i) (size : Nat) (hsz : i.size = size) (A : Option Addr) (n c l h : Nat) (h1 : l ≤ h) (h2 : h ≤ c) :
  ∀ W : World, (Instr.slice t (.slice A n c) (some (.int .i64 (l : Int))) (some (.int .i64 (h : Int))) (some (.int .i64 (h : Int)))).run P W = .ok (.slice (if h = l then A else A.map (·.add (l * size))) (h - l) (h - l)) W := by
 intro W
 have hel : P.elem t = e := by simp [Program.elem, ht]
 have hu : P.underlying t = some (.slice (P.elem t)) := by rw [hel]; exact ht
 rw [run_slice_lhm W t A n c hu .i64 .i64 .i64 (l : Int) (h : Int) (h : Int) (by omega) (by omega) (by omega) (by omega), hel]
 simp [sizeOf, typeInfo, hi, hsz, sliced, Result.andThen]
def encC (ad : Addr) (cnt : Nat) (x : Nat) : Array Value := #[.slice (some (ad.add (48 * (x % cnt)))) 48 48]
structure KpC (Bs Bn : Nat) (W W' : World) : Prop where
 s : W'.heap[Bs]? = W.heap[Bs]?
 n : W'.heap[Bn]? = W.heap[Bn]?
theorem KpC.trans {Bs Bn : Nat} {A B C : World} (h : KpC Bs Bn A B) (k : KpC Bs Bn B C) : KpC Bs Bn A C := ⟨k.s.trans h.s, k.n.trans h.n⟩
set_option maxRecDepth 100000 in
set_option maxHeartbeats 4000000 in
theorem chunk1_in (n : Nat) (hn : 1 ≤ n) (Bs Bn : Nat) (ad : Addr) (cap cnt : Nat) (hc0 : 0 < cnt) (hcb : cnt ≤ 4096) (hcap : 48 * cnt ≤ cap) (w : World) (hBs : Boxed w Bs 22 (.slice (some ad) (48 * cnt) cap)) (hBn : Boxed w Bn 3 (.int .i64 48)) :
  SeqStopsK Fence.wide n Try.prog 85 #[.pointer (some ⟨Bs, 0, none⟩), .pointer (some ⟨Bn, 0, none⟩)] (encC ad cnt) (KpC Bs Bn) (fun xs => xs = List.range cnt) (fun pre => ∃ k, k < cnt ∧ pre = List.range (k + 1)) cnt w := by
 intro l J Jx W hW hJ hJx hY h0
 have hBs0 := (hW.block Bs hBs.lt).trans hBs
 have hBn0 := (hW.block Bn hBn.lt).trans hBn
 have y0 := Boxed.cell hBs0
 have y1 := Boxed.cell hBn0
 have HBs := Lib.hid hBs0
 have HBn := Lib.hid hBn0
 have HJ := Aside0.mk hJ
 have HY := Aside0.mk hY
 have H0 := Aside0.mk h0
 obtain ⟨m, hm⟩ : ∃ m, 48 * cnt = m := ⟨_, rfl⟩
 rw [hm] at HBs y0 hcap
 have HM := Lib.hid hm
 have hmb : m ≤ 196608 := by omega
 have hm0 : 0 < m := by omega
 obtain ⟨i0, hi0, _, hsz, _⟩ := info_parts info5
 have hcut := Aside0.mk (fun (p : Nat) (h : p < m) => cut_from (P := Try.prog) 22 5 .i64 Try.underlying22 hi0 1 hsz (some ad) m cap (p : Int) (by omega) (by omega))
 have hcut3 := Aside0.mk (fun (p q : Nat) (h : p ≤ q) (h2 : q ≤ cap) => cut_three (P := Try.prog) 22 5 Try.underlying22 hi0 1 hsz (some ad) m cap p q h h2)
 clear hBs hBn hBs0 hBn0 hJ hJx hY h0 hW hm hi0 hsz
 refine callsIn_of_wp Try.func85 rfl trivial ?_ rfl
 simp only [Try.ntmps85, List.size_toArray, List.length_cons, List.length_nil, Nat.reduceAdd, Nat.reduceSub, Array.replicate_succ, Array.replicate_zero, List.push_toArray, List.append_toArray, List.nil_append, List.cons_append]
 gi_wp2
 gi_loopw [4] (fun i wr => ∃ k p : Nat, k ≤ cnt ∧ i = .int .i64 (p : Int) ∧ Aside0 (48 * k = p) ∧ Aside0 (J (List.range k) wr) ∧ Aside0 (KpC Bs Bn W wr))
  (fun i _ => m - (intOf i).toNat)
 case atStart => exact ⟨0, 0, Nat.zero_le _, by simp, ⟨rfl⟩, by simpa using H0, ⟨⟨rfl, rfl⟩⟩⟩
 case round =>
  obtain ⟨k, p, hk, rfl, HP, HJk, HK⟩ := hrel
  clear y0 y1
  have y0 : wr.cell? ⟨Bs, 0, none⟩ = some (.slice (some ad) m cap) := Boxed.cell (HK.out.s.trans HBs.out)
  have y1 : wr.cell? ⟨Bn, 0, none⟩ = some (.int .i64 48) := Boxed.cell (HK.out.n.trans HBn.out)
  by_cases hlt : k < cnt
  ·
   have hpm : p + 48 ≤ m := by have := HP.out; have := HM.out; omega
   have hT := hcut.out p (by omega)
   rw [Int.toNat_natCast] at hT
   obtain ⟨AT, hAT⟩ : ∃ B : Option Addr, (if cap = p then some ad else (some ad : Option Addr).map (·.add (p * 1))) = B := ⟨_, rfl⟩
   rw [hAT] at hT
   obtain ⟨cT, hcT⟩ : ∃ c, cap - p = c := ⟨_, rfl⟩
   obtain ⟨lT, hlT⟩ : ∃ c, m - p = c := ⟨_, rfl⟩
   rw [hcT, hlT] at hT
   have hl48 : 48 ≤ lT := by omega
   have hw48 : IntKind.i64.wrap ((p : Int) + 48) = ((p + 48 : Nat) : Int) := by rw [i64_w]; unfold wrap64; omega
   have hT3 := hcut3.out p (p + 48) (by omega) (by omega)
   rw [if_neg (by omega), show p + 48 - p = 48 by omega, Nat.mul_one, Option.map_some] at hT3
   have hlt0 : decide ((p : Int) < (m : Int)) = true := decide_eq_true (by omega)
   clear hAT hcT hlT
   gi_wp2
   refine wpIn_wide.2 ?_
   go_quiet (fail)
   have hbd := pw_below_drewN (Below.refl wr.heap.size wr) nq
   have hJd := HJ.out _ _ _ none HJk.out (grown_of_below hbd none) (fun r e => by cases e)
   have hBsl : Bs < wr.heap.size := (Array.getElem?_eq_some_iff.1 (HK.out.s.trans HBs.out)).1
   have hBnl : Bn < wr.heap.size := (Array.getElem?_eq_some_iff.1 (HK.out.n.trans HBn.out)).1
   have HKd := Aside0.mk (HK.out.trans ⟨hbd.block _ hBsl, hbd.block _ hBnl⟩)
   have z0 : (wr.drewN nq).cell? ⟨Bs, 0, none⟩ = some (.slice (some ad) m cap) := Boxed.cell (HKd.out.s.trans HBs.out)
   have z1 : (wr.drewN nq).cell? ⟨Bn, 0, none⟩ = some (.int .i64 48) := Boxed.cell (HKd.out.n.trans HBn.out)
   obtain ⟨fn, tmps, assign, body, hy, hR⟩ := HY.out (List.range k) k _ hJd (by simp; omega)
   dsimp only [encC] at hy
   rw [Nat.mod_eq_of_lt hlt, HP.out] at hy
   clear hbd hJd hBsl hBnl y0 y1 hT hcut hcut3
   obtain ⟨wq, hwq⟩ : ∃ wq, wr.drewN nq = wq := ⟨_, rfl⟩
   rw [hwq] at hy hR z0 z1 HKd ⊢
   clear hwq
   gi_wp2
   refine hR.mono ?_
   rw [← List.range_succ]
   rintro e W4 (⟨rfl, hJ4, hk4⟩ | ⟨rfl, hJx4⟩)
   ·
    have HJ4 := Aside0.mk hJ4
    have HK4 := Aside0.mk (HKd.out.trans hk4)
    have y1 : W4.cell? ⟨Bn, 0, none⟩ = some (.int .i64 48) := Boxed.cell (HK4.out.n.trans HBn.out)
    clear z0 z1 hT3 hR hy hJ4 hk4
    gi_wp2
    go_roundw
    case rel => exact ⟨k + 1, p + 48, by omega, by go_num, ⟨by have := HP.out; omega⟩, HJ4, HK4⟩
    case measure => simp [intOf]; omega
   ·
    have HJx4 := Aside0.mk hJx4
    clear z0 z1 hT3 hR hy hJx4
    gi_wp2
    exact bodyPost_ret (results_none rfl _ _ _) rfl ⟨⟨_, rfl⟩, .inr ⟨_, ⟨k, hlt, rfl⟩, HJx4.out⟩⟩
  ·
   obtain rfl : k = cnt := by omega
   obtain rfl : p = m := by have := HP.out; have := HM.out; omega
   have hd : decide ((p : Int) < (p : Int)) = false := decide_eq_false (by omega)
   gi_wp2
   go_end0
   exact ⟨⟨_, rfl⟩, .inl ⟨_, rfl, HJk.out⟩⟩
theorem chunk_in (n : Nat) (a : Option Addr) (len cap : Nat) (w : World) :
  CallsIn Fence.wide n Try.prog 84 #[.slice a len cap, .int .i64 48] w fun e w' => e = .returned (.func (.func 85) #[] #[.pointer (some ⟨w.heap.size, 0, none⟩), .pointer (some ⟨w.heap.size + 1, 0, none⟩)]) ∧ w' = (w.alloc (.cells #[.slice a len cap] 22)).alloc (.cells #[.int .i64 48] 3) := by
 refine callsIn_wide.2 ?_
 go_enter Try.func84, Try.ntmps84
 go_wp2
 go_ret
 exact ⟨rfl, rfl⟩
end Go.Proofs.Ytkdaeleolomdkaa.D
