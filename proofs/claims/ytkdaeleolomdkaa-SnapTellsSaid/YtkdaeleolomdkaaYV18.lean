import Derived.Test.YtkdaeleolomdkaaYV0
import Derived.Test.YtkdaeleolomdkaaYV14
namespace Go.Proofs.Ytkdaeleolomdkaa.V
open Go.RowKit Go.Proofs.YtkdaeleolomdkaaW.PrintWords Go.Proofs.YtkdaeleolomdkaaW.PrintLast Go.Proofs.YtkdaeleolomdkaaW.PrintMore
attribute [local go_sem] max2_int min2_int max_two min_two max_three min_three max_four min_four   -- for this text's walks alone
set_option linter.unusedVariables false
set_option linter.unusedSimpArgs false
def nst1 (p : Int × Int × List Int × Int) : Int × Int × Int × List Int := if p.2.2.2 = 0 then (0, p.1, p.2.1, p.2.2.1) else (-1, 0, 0, [])
def nst2 (p q : Int × Int × List Int × Int) : Int × Int × Int × List Int := if q.2.2.2 = 0 ∧ ((nst1 p).1 < 0 ∨ (nst1 p).2.1 < q.1) then (1, q.1, q.2.1, q.2.2.1) else nst1 p
def newS (p q : Int × Int × List Int × Int) : Int × Int × List Int × Int × Int := if (nst2 p q).1 < 0 then (0, 0, [], 0, 71) else ((nst2 p q).2.1, (nst2 p q).2.2.1, (nst2 p q).2.2.2, (nst2 p q).1, 0)
def snap_Newest.f (k : Nat) (l0 : List Int) (l1 : List Int) : Option (Int × Int × List Int × Int × Int) := (snap_Decode.f k l0).bind fun p => ((snap_Decode.f k l1).bind fun q => some (newS p q))
theorem snap_Newest.mono : ∀ a0 a1 k, LeO (snap_Newest.f k a0 a1) (snap_Newest.f (k + 1) a0 a1) := fun a0 a1 k => LeO.bind (snap_Decode.mono a0 k) fun p => LeO.bind (snap_Decode.mono a1 k) fun q => LeO.refl _
def stK (p q : Int × Int × List Int × Int) : Nat → Int × Int × Int × List Int
  | 0 => (-1, 0, 0, [])
  | 1 => nst1 p
  | _ => nst2 p q
theorem best_set {w w3 : World} {B4 B8 : Nat} {cs4 : Array Value} {a b u : Value} {v : Value} {d : List Int} (h8 : w3.heap[B8]? = some (.cells #[a, b, u] 25 (0, 0))) (h4 : w3.heap[B4]? = some (.cells cs4 25 (0, 0))) (ho : Kd.R (Kd.int .u8) 5 w3 w.heap.size (fun _ => True) v d) (hb : Below w.heap.size w w3) (hB : w.heap.size ≤ B8 := by omega) (hne : B4 ≠ B8 := by omega) {a' b' : Value} :
    ((((w3.setCell ⟨B8, 0, none⟩ a').setCell ⟨B8, 1, none⟩ b').setCell ⟨B8, 2, none⟩ v).drew).heap[B8]? = some (.cells #[a', b', v] 25 (0, 0)) ∧ ((((w3.setCell ⟨B8, 0, none⟩ a').setCell ⟨B8, 1, none⟩ b').setCell ⟨B8, 2, none⟩ v).drew).heap[B4]? = some (.cells cs4 25 (0, 0)) ∧
    Kd.R (Kd.int .u8) 5 ((((w3.setCell ⟨B8, 0, none⟩ a').setCell ⟨B8, 1, none⟩ b').setCell ⟨B8, 2, none⟩ v).drew) w.heap.size (fun _ => True) v d ∧ Below w.heap.size w ((((w3.setCell ⟨B8, 0, none⟩ a').setCell ⟨B8, 1, none⟩ b').setCell ⟨B8, 2, none⟩ v).drew) := by
  have k1 := blk_put h8 0 a' rfl
  have k2 := blk_put k1 1 b' rfl
  have k3 := blk_put k2 2 v rfl
  refine ⟨blk_drew k3, blk_drew ((Below.heap_setCell _ ⟨B8, 2, none⟩ _ B4 hne).trans ((Below.heap_setCell _ ⟨B8, 1, none⟩ _ B4 hne).trans ((Below.heap_setCell _ ⟨B8, 0, none⟩ _ B4 hne).trans h4))), Kd.R_drew (Kd.R_set (Kd.R_set (Kd.R_set ho h8 (by decide) 0 _) k1 (by decide) 1 _) k2 (by decide) 2 _), below_drew1 (((hb.setCell (p := ⟨B8, 0, none⟩) hB _).setCell (p := ⟨B8, 1, none⟩) hB _).setCell (p := ⟨B8, 2, none⟩) hB _)⟩
theorem index_two (a b c d : Option Addr) (l m n o : Nat) (W : World) : (Instr.index 92 (.agg #[.slice a l m, .slice b n o]) (.int .i64 0)).run Try.prog W = .ok (.slice a l m) W ∧ (Instr.index 92 (.agg #[.slice a l m, .slice b n o]) (.int .i64 1)).run Try.prog W = .ok (.slice b n o) W := by
  constructor
  · simp [Instr.index, run_underlying Try.underlying92, asIntOf, go_sem]
  · simp [Instr.index, run_underlying Try.underlying92, asIntOf, go_sem]
set_option maxRecDepth 100000 in
set_option maxHeartbeats 4000000 in
theorem newest1 (k : Nat) (A0 : Option Addr) (c0 : Nat) (l0 : List Int) (A1 : Option Addr) (c1 : Nat) (l1 : List Int) (p q : Int × Int × List Int × Int) (w : World) (hr0 : Kd.C (Kd.int .u8) w A0 l0.length l0) (hc0 : l0.length ≤ c0) (hr1 : Kd.C (Kd.int .u8) w A1 l1.length l1) (hc1 : l1.length ≤ c1)
    (hp : snap_Decode.f k l0 = some p) (hq : snap_Decode.f k l1 = some q) :
    Calls Try.prog 19 #[.slice A0 l0.length c0, .slice A1 l1.length c1] w fun e w' => ∃ v : Value, e = .returned (.tuple #[.agg #[.int .i64 (newS p q).1, .int .i64 (newS p q).2.1, v], .int .i64 (newS p q).2.2.2.1, .int .i64 (newS p q).2.2.2.2]) ∧ Kd.R (Kd.int .u8) 5 w' w.heap.size (fun _ => True) v (newS p q).2.2.1 ∧ Below w.heap.size w w' := by
  have HD0 := Aside0.mk (fun (W : World) (hW : Below w.heap.size w W) => snap_Decode.calls k A0 c0 l0 p.1 p.2.1 p.2.2.1 p.2.2.2 W (Kd.C_below hr0 hW) hc0 hp)
  have HD1 := Aside0.mk (fun (W : World) (hW : Below w.heap.size w W) => snap_Decode.calls k A1 c1 l1 q.1 q.2.1 q.2.2.1 q.2.2.2 W (Kd.C_below hr1 hW) hc1 hq)
  clear hr0 hr1 hc0 hc1 hp hq
  obtain ⟨pe, ps, pd, px⟩ := p
  obtain ⟨qe, qs, qd, qx⟩ := q
  obtain ⟨R, hR⟩ : ∃ R, newS (pe, ps, pd, px) (qe, qs, qd, qx) = R := ⟨_, rfl⟩
  rw [hR]
  have HG := Lib.hid hR
  clear hR
  dsimp only at HD0 HD1
  have HB1 := Aside0.mk (below_alloc (below_alloc (Below.refl w.heap.size w) (.cells #[.int .i64 0, .int .i64 0, .slice none 0 0] 25)) (.cells #[.int .i64 0, .int .i64 0, .slice none 0 0] 25))
  go_enter Try.func19, Try.ntmps19
  go_wp2_with fail
  go_loopw [7, 17] (fun a i wr => ∃ k : Nat, k ≤ 2 ∧ i = .int .i64 k ∧ ∃ (n ee ss : Int) (dd : List Int) (v : Value), a = .int .i64 n ∧ Aside0 (stK (pe, ps, pd, px) (qe, qs, qd, qx) k = (n, ee, ss, dd)) ∧ Aside0 (wr.heap[w.heap.size + 1]? = some (.cells #[.int .i64 ee, .int .i64 ss, v] 25 (0, 0))) ∧ Aside0 (wr.heap[w.heap.size]? = some (.cells #[.int .i64 0, .int .i64 0, .slice none 0 0] 25 (0, 0))) ∧ Aside0 (Kd.R (Kd.int .u8) 5 wr w.heap.size (fun _ => True) v dd) ∧ Aside0 (Below w.heap.size w wr)) (fun _ i _ => 2 - (intOf i).toNat)
  case atStart =>
    refine ⟨0, by omega, rfl, -1, 0, 0, [], .slice none 0 0, rfl, ⟨rfl⟩, ⟨?_⟩, ⟨?_⟩, ⟨Kd.R_nil _ _ _ _ _⟩, HB1⟩
    · have := World.alloc_heap_new (w.alloc (.cells #[.int .i64 0, .int .i64 0, .slice none 0 0] 25)) (.cells #[.int .i64 0, .int .i64 0, .slice none 0 0] 25)
      rwa [World.size_alloc] at this
    · exact (Below.heap_alloc _ _ _ (by simp)).trans (World.alloc_heap_new w _)
  case round =>
    clear HB1
    obtain ⟨j, hj, rfl, n, ee, ss, dd, v, rfl, HS, HX8, HX4, HO, HB⟩ := hrel
    have hb4 := blk_lt HX4.out
    have hb8 := blk_lt HX8.out
    have y0 : wr.cell? ⟨w.heap.size + 1, 0, none⟩ = some (.int .i64 ee) := blk_cell HX8.out 0
    have y1 : wr.cell? ⟨w.heap.size + 1, 1, none⟩ = some (.int .i64 ss) := blk_cell HX8.out 1
    have y2 : wr.cell? ⟨w.heap.size + 1, 2, none⟩ = some v := blk_cell HX8.out 2
    have hj3 : j = 0 ∨ j = 1 ∨ j = 2 := by omega
    rcases hj3 with rfl | rfl | rfl
    · have hix := fun W => (index_two A0 A1 none none l0.length c0 l1.length c1 W).1
      go_wp2_with fail
      refine (HD0.out wr HB.out).mono ?_
      rintro x w2 ⟨v2, rfl, ho2, hb2⟩
      have HX8' := Aside0.mk ((hb2.block _ hb8).trans HX8.out)
      have HX4' := Aside0.mk ((hb2.block _ hb4).trans HX4.out)
      have HO' := Aside0.mk (Kd.R_below HO.out hb2)
      have HO2 := Aside0.mk (Kd.R_lower ho2 HB.out.size)
      have HB' := Aside0.mk (HB.out.trans (hb2.mono HB.out.size))
      obtain ⟨A2, c2, rfl⟩ := Kd.R_slice HO2.out
      obtain ⟨Av, cv, rfl⟩ := Kd.R_slice HO.out
      have g4 : w.heap.size < w2.heap.size := blk_lt HX4'.out
      have g8 : w.heap.size + 1 < w2.heap.size := blk_lt HX8'.out
      have e := HS.out
      simp only [stK, Prod.mk.injEq] at e
      obtain ⟨rfl, rfl, rfl, rfl⟩ := e
      have K8 := Aside0.mk ((Below.heap_alloc w2 (.cells #[.int .i64 pe, .int .i64 ps, .slice A2 pd.length c2] 25) _ g8).trans HX8'.out)
      have K4 := Aside0.mk ((Below.heap_alloc w2 (.cells #[.int .i64 pe, .int .i64 ps, .slice A2 pd.length c2] 25) _ g4).trans HX4'.out)
      have Kn := Aside0.mk (World.alloc_heap_new w2 (.cells #[.int .i64 pe, .int .i64 ps, .slice A2 pd.length c2] 25))
      have KO := Aside0.mk (Kd.R_alloc HO2.out (.cells #[.int .i64 pe, .int .i64 ps, .slice A2 pd.length c2] 25))
      have KV := Aside0.mk (Kd.R_alloc HO'.out (.cells #[.int .i64 pe, .int .i64 ps, .slice A2 pd.length c2] 25))
      have KB := Aside0.mk (below_alloc HB'.out (.cells #[.int .i64 pe, .int .i64 ps, .slice A2 pd.length c2] 25))
      obtain ⟨g, hg⟩ : ∃ g, w2.heap.size = g := ⟨_, rfl⟩
      obtain ⟨w3, hw3⟩ : ∃ w3, w2.alloc (.cells #[.int .i64 pe, .int .i64 ps, .slice A2 pd.length c2] 25) = w3 := ⟨_, rfl⟩
      rw [hg] at Kn g4 g8
      rw [hw3] at K8 K4 Kn KO KV KB
      clear y0 y1 y2 hix ho2 hb2 HX8 HX4 HO HB hb4 hb8 HX8' HX4' HO' HO2 HB'
      have n0 : w3.cell? ⟨g, 0, none⟩ = some (.int .i64 pe) := blk_cell Kn.out 0
      have n1 : w3.cell? ⟨g, 1, none⟩ = some (.int .i64 ps) := blk_cell Kn.out 1
      have n2 : w3.cell? ⟨g, 2, none⟩ = some (.slice A2 pd.length c2) := blk_cell Kn.out 2
      have x0 : w3.cell? ⟨w.heap.size + 1, 0, none⟩ = some (.int .i64 0) := blk_cell K8.out 0
      have x1 : w3.cell? ⟨w.heap.size + 1, 1, none⟩ = some (.int .i64 0) := blk_cell K8.out 1
      have x2 : w3.cell? ⟨w.heap.size + 1, 2, none⟩ = some (.slice Av ([] : List Int).length cv) := blk_cell K8.out 2
      have xf : ∀ i, w3.frozen? ⟨w.heap.size + 1, i, none⟩ = false := fun i => by simp [World.frozen?, K8.out]
      have hne : g ≠ w.heap.size + 1 := by omega
      have hne' := hne.symm
      by_cases hpx : px = 0
      · subst hpx
        go_wp2_with fail
        (try rw [hg])
        (try rw [hw3])
        clear hw3 hg
        go_region_held3 (fun w' => w'.cell? ⟨g, 0, none⟩ = some (.int .i64 pe) ∧ w'.cell? ⟨g, 1, none⟩ = some (.int .i64 ps) ∧ w'.cell? ⟨g, 2, none⟩ = some (.slice A2 pd.length c2)) (first | exact ⟨n0, n1, n2⟩ | go_keep) (fail)
        obtain ⟨f8, f4, fO, fB⟩ := best_set K8.out K4.out KO.out KB.out
        go_wp2_with fail
        exact ⟨⟨1, by omega, rfl, 0, pe, ps, pd, .slice A2 pd.length c2, rfl, ⟨by simp [stK, nst1]⟩, ⟨f8⟩, ⟨f4⟩, ⟨fO⟩, ⟨fB⟩⟩, by simp [intOf]⟩
      · have hpx1 : (px == 0) = false := beq_eq_false_iff_ne.mpr hpx
        go_wp2_with fail
        (try rw [hw3])
        exact ⟨⟨1, by omega, rfl, -1, 0, 0, [], .slice Av ([] : List Int).length cv, rfl, ⟨by simp [stK, nst1, hpx]⟩, K8, K4, KV, KB⟩, by simp [intOf]⟩
    · have hix := fun W => (index_two A0 A1 none none l0.length c0 l1.length c1 W).2
      go_wp2_with fail
      refine (HD1.out wr HB.out).mono ?_
      rintro x w2 ⟨v2, rfl, ho2, hb2⟩
      have HX8' := Aside0.mk ((hb2.block _ hb8).trans HX8.out)
      have HX4' := Aside0.mk ((hb2.block _ hb4).trans HX4.out)
      have HO' := Aside0.mk (Kd.R_below HO.out hb2)
      have HO2 := Aside0.mk (Kd.R_lower ho2 HB.out.size)
      have HB' := Aside0.mk (HB.out.trans (hb2.mono HB.out.size))
      obtain ⟨A2, c2, rfl⟩ := Kd.R_slice HO2.out
      obtain ⟨Av, cv, rfl⟩ := Kd.R_slice HO.out
      have g4 : w.heap.size < w2.heap.size := blk_lt HX4'.out
      have g8 : w.heap.size + 1 < w2.heap.size := blk_lt HX8'.out
      have e := HS.out
      simp only [stK] at e
      have K8 := Aside0.mk ((Below.heap_alloc w2 (.cells #[.int .i64 qe, .int .i64 qs, .slice A2 qd.length c2] 25) _ g8).trans HX8'.out)
      have K4 := Aside0.mk ((Below.heap_alloc w2 (.cells #[.int .i64 qe, .int .i64 qs, .slice A2 qd.length c2] 25) _ g4).trans HX4'.out)
      have Kn := Aside0.mk (World.alloc_heap_new w2 (.cells #[.int .i64 qe, .int .i64 qs, .slice A2 qd.length c2] 25))
      have KO := Aside0.mk (Kd.R_alloc HO2.out (.cells #[.int .i64 qe, .int .i64 qs, .slice A2 qd.length c2] 25))
      have KV := Aside0.mk (Kd.R_alloc HO'.out (.cells #[.int .i64 qe, .int .i64 qs, .slice A2 qd.length c2] 25))
      have KB := Aside0.mk (below_alloc HB'.out (.cells #[.int .i64 qe, .int .i64 qs, .slice A2 qd.length c2] 25))
      obtain ⟨g, hg⟩ : ∃ g, w2.heap.size = g := ⟨_, rfl⟩
      obtain ⟨w3, hw3⟩ : ∃ w3, w2.alloc (.cells #[.int .i64 qe, .int .i64 qs, .slice A2 qd.length c2] 25) = w3 := ⟨_, rfl⟩
      rw [hg] at Kn g4 g8
      rw [hw3] at K8 K4 Kn KO KV KB
      clear y0 y1 y2 hix ho2 hb2 HX8 HX4 HO HB hb4 hb8 HX8' HX4' HO' HO2 HB'
      have n0 : w3.cell? ⟨g, 0, none⟩ = some (.int .i64 qe) := blk_cell Kn.out 0
      have n1 : w3.cell? ⟨g, 1, none⟩ = some (.int .i64 qs) := blk_cell Kn.out 1
      have n2 : w3.cell? ⟨g, 2, none⟩ = some (.slice A2 qd.length c2) := blk_cell Kn.out 2
      have x0 : w3.cell? ⟨w.heap.size + 1, 0, none⟩ = some (.int .i64 ee) := blk_cell K8.out 0
      have x1 : w3.cell? ⟨w.heap.size + 1, 1, none⟩ = some (.int .i64 ss) := blk_cell K8.out 1
      have x2 : w3.cell? ⟨w.heap.size + 1, 2, none⟩ = some (.slice Av dd.length cv) := blk_cell K8.out 2
      have xf : ∀ i, w3.frozen? ⟨w.heap.size + 1, i, none⟩ = false := fun i => by simp [World.frozen?, K8.out]
      have hne : g ≠ w.heap.size + 1 := by omega
      have hne' := hne.symm
      by_cases hqx : qx = 0
      · subst hqx
        by_cases hn : n < 0
        · have hn1 : decide (n < 0) = true := decide_eq_true hn
          go_wp2_with fail
          (try rw [hg])
          (try rw [hw3])
          clear hw3 hg
          go_region_held3 (fun w' => w'.cell? ⟨g, 0, none⟩ = some (.int .i64 qe) ∧ w'.cell? ⟨g, 1, none⟩ = some (.int .i64 qs) ∧ w'.cell? ⟨g, 2, none⟩ = some (.slice A2 qd.length c2)) (first | exact ⟨n0, n1, n2⟩ | go_keep) (fail)
          obtain ⟨f8, f4, fO, fB⟩ := best_set K8.out K4.out KO.out KB.out
          go_wp2_with fail
          exact ⟨⟨2, by omega, rfl, 1, qe, qs, qd, .slice A2 qd.length c2, rfl, ⟨by simp [stK, nst2, e, hn]⟩, ⟨f8⟩, ⟨f4⟩, ⟨fO⟩, ⟨fB⟩⟩, by simp [intOf]⟩
        · have hn1 : decide (n < 0) = false := decide_eq_false hn
          by_cases hq : ee < qe
          · have hq1 : decide (ee < qe) = true := decide_eq_true hq
            go_wp2_with fail
            (try rw [hg])
            (try rw [hw3])
            clear hw3 hg
            go_region_held3 (fun w' => w'.cell? ⟨g, 0, none⟩ = some (.int .i64 qe) ∧ w'.cell? ⟨g, 1, none⟩ = some (.int .i64 qs) ∧ w'.cell? ⟨g, 2, none⟩ = some (.slice A2 qd.length c2)) (first | exact ⟨n0, n1, n2⟩ | go_keep) (fail)
            obtain ⟨f8, f4, fO, fB⟩ := best_set K8.out K4.out KO.out KB.out
            go_wp2_with fail
            exact ⟨⟨2, by omega, rfl, 1, qe, qs, qd, .slice A2 qd.length c2, rfl, ⟨by simp [stK, nst2, e, hq]⟩, ⟨f8⟩, ⟨f4⟩, ⟨fO⟩, ⟨fB⟩⟩, by simp [intOf]⟩
          · have hq1 : decide (ee < qe) = false := decide_eq_false hq
            go_wp2_with fail
            (try rw [hw3])
            exact ⟨⟨2, by omega, rfl, n, ee, ss, dd, .slice Av dd.length cv, rfl, ⟨by simp [stK, nst2, e]; intro h; omega⟩, K8, K4, KV, KB⟩, by simp [intOf]⟩
      · have hqx1 : (qx == 0) = false := beq_eq_false_iff_ne.mpr hqx
        go_wp2_with fail
        (try rw [hw3])
        exact ⟨⟨2, by omega, rfl, n, ee, ss, dd, .slice Av dd.length cv, rfl, ⟨by simp [stK, nst2, e, hqx]⟩, K8, K4, KV, KB⟩, by simp [intOf]⟩
    · obtain ⟨Av, cv, rfl⟩ := Kd.R_slice HO.out
      have e := HS.out
      simp only [stK] at e
      have hG := HG.out
      unfold newS at hG
      rw [e] at hG
      dsimp only at hG
      have xf : ∀ i, wr.frozen? ⟨w.heap.size, i, none⟩ = false := fun i => by simp [World.frozen?, HX4.out]
      have z0 : wr.cell? ⟨w.heap.size, 0, none⟩ = some (.int .i64 0) := blk_cell HX4.out 0
      have z1 : wr.cell? ⟨w.heap.size, 1, none⟩ = some (.int .i64 0) := blk_cell HX4.out 1
      have z2 : wr.cell? ⟨w.heap.size, 2, none⟩ = some (.slice none 0 0) := blk_cell HX4.out 2
      by_cases hn : n < 0
      · rw [if_pos hn] at hG
        subst hG
        clear e
        have hn1 : decide (n < 0) = true := decide_eq_true hn
        go_wp2_with fail
        exact bodyPost_ret (results_ctt rfl _ _ w.heap.size 25 #[.int .i64 0, .int .i64 0, .slice none 0 0] (0, 0) _ rfl (blk_put (blk_put (blk_put HX4.out 0 _ rfl) 1 _ rfl) 2 _ rfl) Try.underlying25 rfl (by kernel_rfl)) rfl ⟨_, rfl, Kd.R_nil _ _ _ _ _, (((HB.out.setCell (p := ⟨w.heap.size, 0, none⟩) (Nat.le_refl _) _).setCell (p := ⟨w.heap.size, 1, none⟩) (Nat.le_refl _) _).setCell (p := ⟨w.heap.size, 2, none⟩) (Nat.le_refl _) _)⟩
      · rw [if_neg hn] at hG
        subst hG
        clear e
        have hn1 : decide (n < 0) = false := decide_eq_false hn
        go_wp2_with fail
        have k1 := blk_put HX4.out 0 (.int .i64 ee) rfl
        have k2 := blk_put k1 1 (.int .i64 ss) rfl
        exact bodyPost_ret (results_ctt rfl _ _ w.heap.size 25 #[.int .i64 ee, .int .i64 ss, .slice Av dd.length cv] (0, 0) _ rfl (blk_put k2 2 _ rfl) Try.underlying25 rfl (by kernel_rfl)) rfl ⟨_, rfl, Kd.R_set (Kd.R_set (Kd.R_set HO.out HX4.out (by decide) 0 _) k1 (by decide) 1 _) k2 (by decide) 2 _, (((HB.out.setCell (p := ⟨w.heap.size, 0, none⟩) (Nat.le_refl _) _).setCell (p := ⟨w.heap.size, 1, none⟩) (Nat.le_refl _) _).setCell (p := ⟨w.heap.size, 2, none⟩) (Nat.le_refl _) _)⟩
theorem snap_Newest.calls (k : Nat) (A0 : Option Addr) (c0 : Nat) (l0 : List Int) (A1 : Option Addr) (c1 : Nat) (l1 : List Int) (r1 : Int) (r2 : Int) (r3 : List Int) (r4 : Int) (r5 : Int) (w : World) (hr0 : Kd.C (Kd.int .u8) w A0 l0.length l0) (hc0 : l0.length ≤ c0) (hr1 : Kd.C (Kd.int .u8) w A1 l1.length l1) (hc1 : l1.length ≤ c1) (h : snap_Newest.f k l0 l1 = some (r1, r2, r3, r4, r5)) :
    Calls Try.prog 19 #[.slice A0 l0.length c0, .slice A1 l1.length c1] w fun e w' => ∃ v2_ : Value, e = .returned (.tuple #[.agg #[.int .i64 r1, .int .i64 r2, v2_], .int .i64 r4, .int .i64 r5]) ∧ Kd.R (Kd.int .u8) 5 w' w.heap.size (fun _ => True) v2_ r3 ∧ Below w.heap.size w w' := by
  unfold snap_Newest.f at h
  obtain ⟨p, hp, h⟩ := Option.bind_eq_some_iff.mp h
  obtain ⟨q, hq, h⟩ := Option.bind_eq_some_iff.mp h
  have h := Option.some.inj h
  have := newest1 k A0 c0 l0 A1 c1 l1 p q w hr0 hc0 hr1 hc1 hp hq
  rw [h] at this
  exact this
end Go.Proofs.Ytkdaeleolomdkaa.V
