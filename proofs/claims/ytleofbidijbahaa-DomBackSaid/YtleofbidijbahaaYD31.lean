import Derived.Test.YtleofbidijbahaaYD0
import Derived.Test.YtleofbidijbahaaYD5
import Derived.Test.YtleofbidijbahaaYD11
import Derived.Test.YtleofbidijbahaaYD19
import Derived.Test.YtleofbidijbahaaYD17
import Derived.Test.YtleofbidijbahaaYD28
import Derived.Test.YtleofbidijbahaaYD30
namespace Go.Proofs.Ytleofbidijbahaa.D
open Go.RowKit Go.Proofs.YtleofbidijbahaaW.PrintWords Go.Proofs.YtleofbidijbahaaW.PrintLast Go.Proofs.YtleofbidijbahaaW.PrintMore
attribute [local go_sem] max2_int min2_int max_two min_two max_three min_three max_four min_four   -- for this text's walks alone
set_option linter.unusedVariables false
set_option linter.unusedSimpArgs false
def goneF (ns : List S63) : Nat → List Int → List Int → Option (List Int)
 | _, [], g => some g
 | 0, _ :: _, _ => none
 | k + 1, x :: q, g => match nodeOf ns x with
  | none => none
  | some y => if 999999 < (q ++ y.f6).length then none else goneF ns k (q ++ y.f6) (x :: g)
def awayS (s : S28) (i : Nat) (G : List Int) : S28 := ⟨(offF s.f0 i).filter (fun x => !G.contains x.f0), if G.contains s.f1 = true then 0 else s.f1, s.f2⟩
abbrev QI (W : World) (base : Nat) (v : Value) (xs : List Int) : Prop := QRow W base 3 1 v xs.length (xs.map (fun x => Value.int .i64 x))
theorem rises_filter {ns : List S63} (h : Rises ns) (p : S63 → Bool) : Rises (ns.filter p) := by
 have h1 : ns.Pairwise (fun a b => a.f0 < b.f0) := List.pairwise_iff_getElem.2 (fun i j hi hj hij => h i j hi hj hij)
 have h2 := List.pairwise_iff_getElem.1 (h1.filter p)
 exact fun i j hi hj hij => h2 i j hi hj hij
theorem zip_filter (l : List S63) (G : List Int) : (l.zipIdx.filter (fun q => !G.contains q.1.f0)).map Prod.fst = l.filter (fun x => !G.contains x.f0) := by
 have h := List.filter_map (f := Prod.fst) (p := fun x : S63 => !G.contains x.f0) (l := l.zipIdx)
 rw [List.zipIdx_map_fst] at h
 rw [h]
 rfl
theorem zip_nodup (l : List S63) (p : S63 × Nat → Bool) : ((l.zipIdx.filter p).map Prod.snd).Nodup := by
 have h : (l.zipIdx.map Prod.snd).Nodup := by rw [List.zipIdx_map_snd]; exact List.nodup_range'
 exact h.sublist ((List.filter_sublist).map _)
theorem QI.kept {W W' : World} {base : Nat} {v : Value} {xs : List Int} (h : QI W base v xs) {row : Option Nat} (hg : W.grownBy W' row) (hne : ∀ k, v.ownBlock = some k → some k ≠ row) : QI W' base v xs := by
 refine ⟨h.1, ?_⟩
 rcases h.2 with ⟨h0, A, hv, hA⟩ | ⟨g, off, cap, cur, hv, hb, hh, r⟩
 ·
  exact .inl ⟨h0, A, hv, fun a ha => by
   obtain ⟨h1, cur, h2⟩ := hA a ha
   refine ⟨h1, cur, blk_grown h2 hg (hne _ (by rw [hv, ha]; rfl))⟩⟩
 ·
  exact .inr ⟨g, off, cap, cur, hv, hb, blk_grown hh hg (hne _ (by rw [hv]; rfl)), r⟩
theorem QI.head {W : World} {base : Nat} {v : Value} {x : Int} {xs : List Int} (h : QI W base v (x :: xs)) : ∃ g o cap, v = .slice (some ⟨g, o, none⟩) (xs.length + 1) cap ∧ W.cell? ⟨g, o, none⟩ = some (.int .i64 x) ∧ xs.length + 1 ≤ cap := by
 rcases h.2 with ⟨h0, _⟩ | ⟨g, off, cap, cur, hv, hb, hh, hnc, hm, hcs, ht⟩
 ·
  simp at h0
 ·
  refine ⟨g, off * 1, cap, hv, ?_, hnc⟩
  rw [cell_of_row W g _ cur 3 (0, 0) hh]
  have h1 := congrArg (fun l => l[0]?) ht
  simp only [List.length_cons, List.map_cons, List.getElem?_cons_zero, List.getElem?_take, List.getElem?_drop, Nat.add_zero] at h1
  rw [if_pos (by omega)] at h1
  rw [← Array.getElem?_toList]
  exact h1
theorem QI.tail {W : World} {base : Nat} {A : Option Addr} {n c : Nat} {x : Int} {xs : List Int} (h : QI W base (.slice A n c) (x :: xs)) : QI W base (.slice (if c = 1 then A else A.map (·.add 1)) xs.length (c - 1)) xs := by
 obtain ⟨A', c', e, -⟩ := q_slice h
 injection e with _ e2 _
 subst e2
 have := q_drop (k := 1) h (by simp)
 simpa using this
theorem info_int : ∃ i, Try.prog.info? 3 = some i ∧ i.zero = some (.int .i64 0) ∧ i.size = 1 ∧ i.bytes = 8 := by
 have h : (Try.prog.info? 3).map (fun i => (i.zero, i.size, i.bytes)) = some (some (.int .i64 0), 1, 8) := by kernel_rfl
 cases hh : Try.prog.info? 3 with
 | none => rw [hh] at h; cases h
 | some i =>
  rw [hh] at h
  simp only [Option.map_some, Option.some.injEq, Prod.mk.injEq] at h
  exact ⟨i, rfl, h⟩
theorem loadCells_zero {P : Program} (a : Addr) (W : World) : (loadCells a 0).run P W = .ok #[] W := by rfl
theorem storeCells_nil {P : Program} (a : Addr) (W : World) : (storeCells a []).run P W = .ok () W := by rfl
theorem wp_append_runI {P : Program} (w : World) {o : Oper} {a : Act} {K : Act → World → Prop} {Q : Exit → Act → World → Prop} (s x : Operand) (t : TypeId)
  (ho : o.op = .call { callee := .builtin .append, args := #[s, x], argTypes := #[t, t] }) (v u : Value) (hs : a.eval s = v) (hx : a.eval x = u) {v' : Value} {w' : World}
  (hr : (Builtin.append_ #[t, t] o.type #[v, u]).run P w = .ok v' w') (h : K (a.put o.dst v') w') : o.wp P a w K Q := by
 unfold Oper.wp execOp
 simp only [ho, resolve, invoke, builtin, Sem.run_bind, Sem.run_pure, Result.andThen_ok, List.map_toArray, List.map_cons, List.map_nil, hs, hx, hr]
 exact h
theorem wpList_append_runI {P : Program} (w : World) {ops : Array Oper} {rest : List Oper} {o : Oper} {a : Act} {Q : Exit → Act → World → Prop} (hgd : o.guard = none) (s x : Operand) (t : TypeId)
  (ho : o.op = .call { callee := .builtin .append, args := #[s, x], argTypes := #[t, t] }) (v u : Value) (hs : a.eval s = v) (hx : a.eval x = u) {v' : Value} {w' : World}
  (hr : (Builtin.append_ #[t, t] o.type #[v, u]).run P w = .ok v' w') (h : wpList P ops Q rest (a.put o.dst v') w') : wpList P ops Q (o :: rest) a w :=
 wpList_plain hgd fun _ hK => wp_append_runI w s x t ho v u hs hx hr (hK _ _ h)
set_option maxRecDepth 100000 in
theorem QI.app {W : World} {base : Nat} {v : Value} {xs ys : List Int} {A6 : Option Addr} {c6 : Nat} (h : QI W base v xs) (hC : Kd.C (Kd.int .i64) W A6 ys.length ys) (hl : (xs ++ ys).length ≤ 1000000) (hb : base ≤ W.heap.size) :
  ∃ v' w', (Builtin.append_ #[61, 61] 61 #[v, .slice A6 ys.length c6]).run Try.prog W = .ok v' w' ∧ QI w' base v' (xs ++ ys) ∧ W.grownBy w' v.ownBlock ∧ (v'.ownBlock = v.ownBlock ∨ ∃ b, v'.ownBlock = some b ∧ W.heap.size ≤ b) := by
 rw [List.length_append] at hl
 obtain ⟨i, hi, hz, hs, hb8⟩ := info_int
 cases ys with
 | nil =>
  obtain ⟨A, c, rfl, hnc⟩ := q_slice h
  refine ⟨.slice A xs.length c, W, ?_, by rw [List.append_nil]; exact h, World.grownBy.refl _ _, .inl rfl⟩
  have hu := Try.underlying61
  cases A <;> cases A6 <;> simp [Builtin.append_, run_underlying hu, sizeOf, typeInfo, hi, hs, Builtin.lenOf, Builtin.firstCells, hnc, loadCells_zero, storeCells_nil, Result.andThen]
 | cons y ys =>
  obtain ⟨ad, rfl, -⟩ := Kd.at_int hC 0 (by omega) (by simp)
  obtain ⟨v', w', hr, hq, hg, hat⟩ := q_append (P := Try.prog) W base 61 61 3 i (.int .i64 0) 1 8 Try.underlying61 hi hz hs hb8 rfl (by decide) v xs.length _ h ad (y :: ys).length c6 ((y :: ys).map (fun x => Value.int .i64 x)) (by simp) (fun j u hu => by
   rw [List.getElem?_map] at hu
   cases hz : (y :: ys)[j]? with
   | none => rw [hz] at hu; cases hu
   | some z =>
    rw [hz] at hu
    injection hu with hu
    subst hu
    obtain ⟨hjl, hjz⟩ := List.getElem?_eq_some_iff.1 hz
    obtain ⟨ad2, he, hcell⟩ := Kd.at_int hC (j : Int) (by omega) (by omega)
    injection he with he
    subst he
    rw [Int.toNat_natCast] at hcell
    rw [hcell]
    unfold rd
    rw [Int.toNat_natCast, List.getD_eq_getElem?_getD, hz, Option.getD_some]) (fun u hu => by obtain ⟨z, -, rfl⟩ := List.mem_map.1 hu; rfl) (by simp) (by unfold maxLen; omega) (by omega) hb
  exact ⟨v', w', hr, by rw [← List.length_append, ← List.map_append] at hq; exact hq, hg, hat⟩
set_option maxRecDepth 100000 in
set_option maxHeartbeats 8000000 in
theorem away_is (base g : Nat) (ok : Nat → Prop) (b n c i : Nat) (ns : List S63) (r nx : Int) (w : World) (hD : Disp w base g ok (.slice (some ⟨b, 0, none⟩) n c) ns r nx) (hi : i < n) (fuel : Nat) (G : List Int) (x : S63) (hx : rd_T63 (offF ns i) (i : Int) = x)
  (hG : goneF (offF ns i) fuel [x.f0] [] = some G) (hfuel : fuel ≤ 1000000) (hids : ∀ y ∈ offF ns i, InI y.f0) (hr : InI r) (hbase : base ≤ w.heap.size) :
  Calls Try.prog 67 #[.pointer (some ⟨g, 0, none⟩), .pointer (some ⟨b, i * 7, none⟩)] w (Post w base g ok (0, awayS ⟨ns, r, nx⟩ i G)) := by
 obtain ⟨P, hP⟩ : ∃ P, Post w base g ok (0, awayS ⟨ns, r, nx⟩ i G) = P := ⟨_, rfl⟩
 rw [hP]
 have HP := Aside0.mk hP
 have HOFF := Aside0.mk (off_is base g ok b n c i ns r nx w hD hi)
 have HD := Aside0.mk hD
 have HBASE := Aside0.mk hbase
 clear hP hD hbase
 go_enter Try.func67, Try.ntmps67
 go_wp2_with fail
 refine HOFF.out.mono ?_
 rintro e w2 ⟨rfl, hD2, hc2⟩
 obtain ⟨ns1, hns1⟩ : ∃ l, offF ns i = l := ⟨_, rfl⟩
 rw [hns1] at hD2 hG hids hx
 have HS : Aside0 (awayS ⟨ns, r, nx⟩ i G = ⟨ns1.filter (fun x => !G.contains x.f0), if G.contains r = true then 0 else r, nx⟩) := ⟨by unfold awayS; rw [hns1]⟩
 obtain ⟨-, -, -, -, -, -, -, -, -, -, e0, -⟩ := hD2.elem i hi x hx
 obtain ⟨id, hid⟩ : ∃ id, x.f0 = id := ⟨_, rfl⟩
 rw [hid] at e0 hG
 have hle2 : w.heap.size ≤ w2.heap.size := hc2.size
 have hmm := @run_makeMap Try.prog
 obtain ⟨W3, hW3⟩ : ∃ W, w2.alloc (.map #[] 0) = W := ⟨_, rfl⟩
 obtain ⟨mo, hmo⟩ : ∃ B, w2.heap.size = B := ⟨_, rfl⟩
 have hks := KeySetI.made w2
 have hb3 := (Below.refl w2.heap.size w2).alloc (Nat.le_refl _) (.map #[] 0)
 have hs3 : (w2.alloc (.map #[] 0)).heap.size = mo + 1 := by rw [← hmo]; simp
 rw [hW3] at hks hb3 hs3
 rw [hmo] at hks
 obtain ⟨W4, hW4⟩ : ∃ W, W3.alloc (.cells #[.map (some mo)] 112) = W := ⟨_, rfl⟩
 have hb4 := (Below.refl W3.heap.size W3).alloc (Nat.le_refl _) (.cells #[.map (some mo)] 112)
 have hx4 : W4.heap[mo + 1]? = some (.cells #[.map (some mo)] 112 (0, 0)) := by rw [← hW4, ← hs3]; exact World.alloc_heap_new W3 _
 have hs4 : (W3.alloc (.cells #[.map (some mo)] 112)).heap.size = mo + 2 := by simp [hs3]
 rw [hW4] at hb4 hs4
 obtain ⟨W5, hW5⟩ : ∃ W, W4.alloc (.cells #[.int .i64 id] 3) = W := ⟨_, rfl⟩
 have hb5 := (Below.refl W4.heap.size W4).alloc (Nat.le_refl _) (.cells #[.int .i64 id] 3)
 have hx5 : W5.heap[mo + 2]? = some (.cells #[.int .i64 id] 3 (0, 0)) := by rw [← hW5, ← hs4]; exact World.alloc_heap_new W4 _
 have hs5 : (W4.alloc (.cells #[.int .i64 id] 3)).heap.size = mo + 3 := by simp [hs4]
 rw [hW5] at hb5 hs5
 have e04 := pw_cell_below hb4 (pw_cell_below hb3 e0)
 have hb24 : Below w2.heap.size w2 W5 := (hb3.trans (hb4.mono hb3.size)).trans (hb5.mono (hb3.trans (hb4.mono hb3.size)).size)
 go_wp2_with fail
 have HKS0 := Aside0.mk ((hks.below hb4).below hb5)
 have HAT0 : Aside0 (W5.heap[mo + 1]? = some (.cells #[.map (some mo)] 112 (0, 0))) := ⟨(hb5.block _ (blk_lt hx4)).trans hx4⟩
 have HQ0 : Aside0 (QI W5 mo (.slice (some ⟨mo + 2, 0, none⟩) 1 1) [id]) := ⟨⟨rfl, .inr ⟨mo + 2, 0, 1, #[.int .i64 id], rfl, by omega, hx5, by simp, by unfold maxLen; simp, rfl, rfl⟩⟩⟩
 have HB24 := Aside0.mk hb24
 have HD2 := Aside0.mk hD2
 have HC2 := Aside0.mk hc2
 have HG0 := Aside0.mk hG
 have HIDS := Aside0.mk hids
 have HMO := Lib.hid hmo
 have HLE2 := Aside0.mk hle2
 have hr1 := hr
 clear hks hb3 hb4 hb5 hx4 hx5 hs3 hs4 hs5 hb24 hD2 hc2 hG hids hmo hle2 hmm hW3 hW4 hW5 e0 e04 hns1 hx hid HOFF
 go_loopg [6] fuel (fun kq v6 wr => ∃ (q gone : List Int) (j : Nat), j + kq = fuel ∧ Aside0 (goneF ns1 kq q gone = some G) ∧ Aside0 (QI wr mo v6 q ∧ q.length ≤ 1000000 ∧ ∀ k, v6.ownBlock = some k → mo + 2 ≤ k) ∧ Aside0 (KeySetI wr mo j gone) ∧ Aside0 (wr.heap[mo + 1]? = some (.cells #[.map (some mo)] 112 (0, 0))) ∧ Aside0 (Below w2.heap.size w2 wr))
 case atStart => exact ⟨[id], [], 0, by omega, HG0, ⟨HQ0.out, by simp, fun k hk => by simp [Value.ownBlock] at hk; omega⟩, HKS0, HAT0, HB24⟩
 case round =>
  clear HKS0 HAT0 HQ0 HB24 HG0
  obtain ⟨q, gone, j, hjk, HG, HQ, HK, HAT, HB⟩ := hrel
  cases q with
  | nil =>
   obtain ⟨A, cc, rfl, -⟩ := q_slice HQ.out.1
   have HGG : Aside0 (gone = G) := ⟨by have := HG.out; unfold goneF at this; cases gk <;> (injection this)⟩
   have hD3 := HD2.out.below HB.out
   have HB3 := HB
   have hlen := HD2.out.sees.len
   obtain ⟨ft, htag⟩ := hD3.row
   have g0 : wr.cell? ⟨g, 0, none⟩ = some (.slice (some ⟨b, 0, none⟩) n c) := blk_cell hD3.box 0
   have hbk : b < w2.heap.size := Kd.S_lt HD2.out.row b (by simp [Value.ownBlock])
   have hgone : GoneAt wr (mo + 1) mo j gone := ⟨HAT.out, HK.out⟩
   have HDEL := Aside0.mk (del2_is ft _ ns1.zipIdx gone base ok (mo + 1) mo j wr htag hgone (by simp [Value.ownBlock]; have := HMO.out; omega) (by simp [Value.ownBlock]; have := HMO.out; omega) (fun q hq => HIDS.out q.1 (by have := List.mem_map_of_mem (f := Prod.fst) hq; rwa [List.zipIdx_map_fst] at this)))
   have HGO := Aside0.mk hgone
   have HD3 := Aside0.mk hD3
   have HBK := Aside0.mk hbk
   clear hD3 htag hbk hgone HG HQ HK HAT hjk
   go_wp2_with fail
   refine HDEL.out.mono ?_
   rintro e w4 ⟨v4, rfl, hv4, ht4, hg4⟩
   have hS4 := S_of_tags ht4 (zip_nodup ns1 _)
   rw [zip_filter] at hS4
   have hgb : some g ≠ (Value.slice (some ⟨b, 0, none⟩) n c).ownBlock := fun he => HD3.out.ne (by injection he with he; exact he.symm)
   have hx4 := blk_grown HD3.out.box hg4 hgb
   obtain ⟨l2, hl2⟩ : ∃ l, ns1.filter (fun x => !gone.contains x.f0) = l := ⟨_, rfl⟩
   rw [hl2] at hS4
   have hl2n : l2.length ≤ 100000 := by
    have h1 := List.length_filter_le (fun x : S63 => !gone.contains x.f0) ns1
    have h2 := HD3.out.small
    rw [hl2] at h1
    omega
   have hrise : Rises l2 := by rw [← hl2]; exact rises_filter HD3.out.rises _
   have g4 : w4.cell? ⟨g, 0, none⟩ = some (.slice (some ⟨b, 0, none⟩) n c) := blk_cell hx4 0
   have fz4 : w4.frozen? ⟨g, 0, none⟩ = false := blk_frozen hx4 _
   have hx5 := blk_put hx4 0 v4 rfl
   have hS5 := Kd.S_far (p := ⟨g, 0, none⟩) hS4 (fun k hk he => HD.out.away ((show k = g from he) ▸ hk)) v4
   have hg5 : GoneAt (w4.setCell ⟨g, 0, none⟩ v4) (mo + 1) mo j gone := (HGO.out.grown hg4 (by simp [Value.ownBlock]; have := HBK.out; have := HMO.out; omega) (by simp [Value.ownBlock]; have := HBK.out; have := HMO.out; omega)).grown (grown_cell w4 g 0 v4) (by simp; have := blk_lt HD2.out.box; have := HMO.out; omega) (by simp; have := blk_lt HD2.out.box; have := HMO.out; omega)
   obtain ⟨w5, hw5⟩ : ∃ W, w4.setCell ⟨g, 0, none⟩ v4 = W := ⟨_, rfl⟩
   obtain ⟨A4, c4, rfl⟩ := Kd.S_slice hS4
   have HC5 : Aside0 (Chg w w5 (fun k => ok k ∨ k = g)) := ⟨by
    rw [← hw5]
    exact ((((HC2.out.mono (fun k hk => .inl hk)).below HB3.out).grown hg4 (fun k hk => by injection hk with hk; subst hk; exact .inl (.inl HD3.out.okb))).grown (grown_cell w4 g 0 _) (fun k hk => by injection hk with hk; exact .inl (.inr hk.symm)))⟩
   rw [hw5] at hx5 hS5 hg5
   have HX5 := Aside0.mk hx5
   have HS5 := Aside0.mk hS5
   have HG5 := Aside0.mk hg5
   have HRISE := Aside0.mk hrise
   have HL2 := Lib.hid hl2
   have m5 : w5.cell? ⟨mo + 1, 0, none⟩ = some (.map (some mo)) := blk_cell hg5.at_ 0
   have r5 : w5.cell? ⟨g, 1, none⟩ = some (.int .i64 r) := blk_cell hx5 1
   have fr5 : w5.frozen? ⟨g, 1, none⟩ = false := blk_frozen hx5 _
   have hlook := fun m => (hg5.set.below (pw_below_drewN (Below.refl _ _) m)).look hr1
   obtain ⟨q, hq⟩ : ∃ q, gone.contains r = q := ⟨_, rfl⟩
   rw [hq] at hlook
   have HQ := Lib.hid hq
   clear hS4 hgb hx4 hl2 hrise hx5 hS5 hg5 ht4 hq HDEL HGO g0
   have HL2N := Aside0.mk hl2n
   go_wp2_with fail
   go_quiet (fail)
   have hbq : Below w5.heap.size w5 (w5.drewN nq) := pw_below_drewN (Below.refl _ _) _
   have hdi : Disp w5 base g ok (.slice A4 l2.length c4) l2 r nx := ⟨HX5.out, HS5.out, HL2N.out, HRISE.out, HD.out.gbase, HD.out.away⟩
   have hdq := hdi.below hbq
   have hcq := HC5.out.below hbq
   have hbx := hdq.box
   obtain ⟨w6, hw6⟩ : ∃ W, w5.drewN nq = W := ⟨_, rfl⟩
   rw [hw6] at hdq hcq hbx ⊢
   have r6 : w6.cell? ⟨g, 1, none⟩ = some (.int .i64 r) := blk_cell hbx 1
   have fr6 : w6.frozen? ⟨g, 1, none⟩ = false := blk_frozen hbx _
   have HDQ := Aside0.mk hdq
   have HCQ := Aside0.mk hcq
   have hs := HS.out
   rw [← HGG.out, HL2.out, HQ.out] at hs
   cases q with
   | true =>
    rw [if_pos rfl] at hs
    have HFIN : Aside0 (Post w base g ok (0, awayS ⟨ns, r, nx⟩ i G) (.returned (.int .i64 0)) (w6.setCell ⟨g, 1, none⟩ (.int .i64 0))) := ⟨by
     rw [← HGG.out, hs]
     exact ⟨_, rfl, HD.out.okN_ (HDQ.out.setRoot 0), HCQ.out.grown (grown_cell w6 g 1 _) (fun k hk => by injection hk with hk; exact .inl (.inr hk.symm))⟩⟩
    clear hs hdi hdq hcq hbx hbq hw6 r5 fr5 m5 hlook HDQ HCQ
    go_wp2_with fail
    (try go_ret)
    rw [← HP.out]
    exact HFIN.out
   | false =>
    rw [if_neg (by decide)] at hs
    have HFIN : Aside0 (Post w base g ok (0, awayS ⟨ns, r, nx⟩ i G) (.returned (.int .i64 0)) w6) := ⟨by
     rw [← HGG.out, hs]
     exact ⟨_, rfl, HD.out.okN_ HDQ.out, HCQ.out⟩⟩
    clear hs hdi hdq hcq hbx hbq hw6 r5 fr5 m5 hlook HDQ HCQ
    go_wp2_with fail
    (try go_ret)
    rw [← HP.out]
    exact HFIN.out
  | cons k q =>
   cases gk with
   | zero => exact absurd HG.out (by unfold goneF; simp)
   | succ k1 =>
   obtain ⟨lg, lo, cap, rfl, l0, hcap⟩ := HQ.out.1.head
   have hg := HG.out
   unfold goneF at hg
   cases hno : nodeOf ns1 k with
   | none => rw [hno] at hg; cases hg
   | some y =>
   rw [hno] at hg
   simp only at hg
   by_cases hbig : 999999 < (q ++ y.f6).length
   ·
    rw [if_pos hbig] at hg; cases hg
   rw [if_neg hbig] at hg
   obtain ⟨hL, hy, hyk⟩ := nodeOf_some hno
   have hkin : InI k := by
    rw [← hyk]
    exact HIDS.out y (by rw [← hy, rd_lt hL]; exact List.getElem_mem _)
   have hfv := findV_own hno b
   obtain ⟨L, hLe⟩ : ∃ L, lowP ns1 k = L := ⟨_, rfl⟩
   rw [hLe] at hL hy hfv
   have hLn : L < n := by have := HD2.out.sees.len; omega
   have hlg : mo + 2 ≤ lg := HQ.out.2.2 lg rfl
   obtain ⟨D, hm1, hm2, hm3⟩ := HK.out
   obtain ⟨w6, hrun, hown6, hg6⟩ := World.ownsMap.update hm1.drew (Maps.int_keyed Try.underlying3) Try.underlying112 (by unfold maxLen; omega) (keyI hkin) (plainElem_bool Try.underlying4 true)
   have HK6 : Aside0 (KeySetI w6 mo (j + 1) (k :: gone)) := ⟨_, hown6, hm2.put _ _, fun s => KeySetI.put hm2 hm3 _ s⟩
   have HB6 : Aside0 (Below w2.heap.size w2 w6) := ⟨(below_drew1 HB.out).grown hg6 HB.out.size (fun k hk => by injection hk with hk; have := HMO.out; omega)⟩
   have a0 : wr.cell? ⟨mo + 1, 0, none⟩ = some (.map (some mo)) := blk_cell HAT.out 0
   have a6 : w6.cell? ⟨mo + 1, 0, none⟩ = some (.map (some mo)) := cell_grown hg6 a0 (by simp)
   have l6 : w6.cell? ⟨lg, lo, none⟩ = some (.int .i64 k) := cell_grown hg6 l0 (by simp; omega)
   have HAT6 : Aside0 (w6.heap[mo + 1]? = some (.cells #[.map (some mo)] 112 (0, 0))) := ⟨blk_grown (show wr.drew.heap[mo + 1]? = _ from HAT.out) hg6 (by simp)⟩
   have HQ6 : Aside0 (QI w6 mo (.slice (some ⟨lg, lo, none⟩) (q.length + 1) cap) (k :: q)) := ⟨QI.kept (W := wr.drew) HQ.out.1 hg6 (fun z hz => by injection hz with hz; subst hz; simp; omega)⟩
   have HQL : Aside0 (mo + 2 ≤ lg) := ⟨hlg⟩
   have HGN := Aside0.mk hg
   have HD6 := Aside0.mk (HD2.out.below HB6.out)
   have HY := Lib.hid hy
   have HBIG := Aside0.mk hbig
   clear hm1 hm2 hm3 hown6 hg6 hg hno hbig hL hy hyk hkin hLe hlg HG HK HAT HB HQ
   go_wp2_with fail
   go_region_held3 (fun w' => w'.cell? ⟨mo + 1, 0, none⟩ = some (.map (some mo)) ∧ w'.cell? ⟨lg, lo, none⟩ = some (.int .i64 k)) (first | exact ⟨a6, l6⟩ | exact ⟨a0, l0⟩ | go_keep) (fail)
   clear a0 l0 a6 hrun
   have HFIND := Aside0.mk (HD6.out.sees.find k)
   go_wp2_with fail
   refine HFIND.out.mono ?_
   rintro e w7 ⟨rfl, hb7⟩
   rw [hfv]
   have hD7 := HD6.out.below hb7
   obtain ⟨oki, A5, c5, A6, c6, -, -, h6, -, -, -, -, -, -, -, -, e6⟩ := hD7.elem L hLn y HY.out
   have HK7 := Aside0.mk (HK6.out.below hb7)
   have HB7 := Aside0.mk (HB6.out.trans (hb7.mono HB6.out.size))
   have HAT7 : Aside0 (w7.heap[mo + 1]? = some (.cells #[.map (some mo)] 112 (0, 0))) := ⟨(hb7.block _ (blk_lt HAT6.out)).trans HAT6.out⟩
   have hAT7 : mo + 2 ≤ w7.heap.size := by have := blk_lt HAT7.out; omega
   have hQ7 : QI w7 mo (.slice (some ⟨lg, lo, none⟩) (q.length + 1) cap) (k :: q) := QI.kept HQ6.out (grown_of_below hb7 none) (fun _ _ => by simp)
   have hm7 : mo ≤ w7.heap.size := by have := HMO.out; have := HB7.out.size; omega
   obtain ⟨v8, w8, hrun, hQ8, hg8, hat8⟩ := hQ7.app (A6 := A6) (c6 := c6) (Kd.R_reads' h6).2.2 (by have := HBIG.out; simp only [List.length_append, List.length_cons] at this ⊢; omega) hm7
   obtain ⟨m6, hm6⟩ : ∃ m, y.f6.length = m := ⟨_, rfl⟩
   rw [hm6] at hrun e6
   have HK8 : Aside0 (KeySetI w8 mo (j + 1) (k :: gone)) := ⟨HK7.out.kept hg8 (by simp [Value.ownBlock]; have := HQL.out; omega)⟩
   have HAT8 : Aside0 (w8.heap[mo + 1]? = some (.cells #[.map (some mo)] 112 (0, 0))) := ⟨blk_grown HAT7.out hg8 (by simp [Value.ownBlock]; have := HQL.out; omega)⟩
   have HB8 : Aside0 (Below w2.heap.size w2 w8) := ⟨HB7.out.grown hg8 HB7.out.size (fun z hz => (by have hz2 : lg = z := (by injection hz); have := HQL.out; have := HMO.out; omega))⟩
   obtain ⟨g8, o8, cap8, rfl, -, hcap8⟩ := hQ8.head
   have hQ9 := hQ8.tail
   have HQ9 := Aside0.mk hQ9
   have hown9 : mo + 2 ≤ g8 := by
    rcases hat8 with h1 | ⟨z, h1, h2⟩
    ·
     have h3 : g8 = lg := by injection h1
     have := HQL.out; omega
    ·
     have h3 : g8 = z := by injection h1
     omega
   clear hb7 h6 hD7 hQ7 hm6 hQ8 hQ9 hg8 HFIND HK7 HB7 HAT7 HK6 HB6 HAT6 HQ6 HD6 l6
   have HQ9L : Aside0 (mo + 2 ≤ g8) := ⟨hown9⟩
   have hlen8 : 1 ≤ (q ++ y.f6).length + 1 := by omega
   have hcap81 : 1 ≤ cap8 := by omega
   have HJK := Aside0.mk hjk
   have hq9 := HQ9.out
   by_cases hc1 : cap8 = 1
   ·
    subst hc1
    rw [if_pos rfl] at hq9
    have HQ10 : Aside0 (QI w8 mo (.slice (some ⟨g8, o8, none⟩) (q.length + y.f6.length) 0) (q ++ y.f6)) := ⟨by rw [← List.length_append]; exact hq9⟩
    clear hq9 HQ9
    go_wp2_with (at_builtin; refine wpList_append_runI _ rfl _ _ 61 rfl _ _ rfl rfl hrun ?_)
    go_roundg k1
    case rel => exact ⟨q ++ y.f6, k :: gone, j + 1, by have := HJK.out; omega, HGN, ⟨HQ10.out, by have := HBIG.out; omega, fun z hz => by have h3 : g8 = z := (by injection hz); have := HQ9L.out; omega⟩, HK8, HAT8, HB8⟩
    exact Nat.lt_succ_self k1
   ·
    rw [if_neg hc1] at hq9
    have HQ10 : Aside0 (QI w8 mo (.slice (some ⟨g8, o8 + 1, none⟩) (q.length + y.f6.length) (cap8 - 1)) (q ++ y.f6)) := ⟨by rw [← List.length_append]; exact hq9⟩
    clear hq9 HQ9
    go_wp2_with (at_builtin; refine wpList_append_runI _ rfl _ _ 61 rfl _ _ rfl rfl hrun ?_)
    go_roundg k1
    case rel => exact ⟨q ++ y.f6, k :: gone, j + 1, by have := HJK.out; omega, HGN, ⟨HQ10.out, by have := HBIG.out; omega, fun z hz => by have h3 : g8 = z := (by injection hz); have := HQ9L.out; omega⟩, HK8, HAT8, HB8⟩
    exact Nat.lt_succ_self k1
end Go.Proofs.Ytleofbidijbahaa.D
