import Derived.Test.YtleofbidijbahaaYD0
import Derived.Test.YtleofbidijbahaaYD19
namespace Go.Proofs.Ytleofbidijbahaa.D
open Go.RowKit Go.Proofs.YtleofbidijbahaaW.PrintWords Go.Proofs.YtleofbidijbahaaW.PrintLast Go.Proofs.YtleofbidijbahaaW.PrintMore
attribute [local go_sem] max2_int min2_int max_two min_two max_three min_three max_four min_four   -- for this text's walks alone
set_option linter.unusedVariables false
set_option linter.unusedSimpArgs false
theorem wp_copy_runI {P : Program} (w : World) {o : Oper} {a : Act} {K : Act → World → Prop} {Q : Exit → Act → World → Prop} (d s : Operand) (t t' : TypeId)
  (ho : o.op = .call { callee := .builtin .copy, args := #[d, s], argTypes := #[t, t'] }) (v u : Value) (hd : a.eval d = v) (hs : a.eval s = u) {v' : Value} {w' : World}
  (hr : (Builtin.copy_ #[t, t'] o.type #[v, u]).run P w = .ok v' w') (h : K (a.put o.dst v') w') : o.wp P a w K Q := by
 unfold Oper.wp execOp
 simp only [ho, resolve, invoke, builtin, Sem.run_bind, Sem.run_pure, Result.andThen_ok, List.map_toArray, List.map_cons, List.map_nil, hd, hs, hr]
 exact h
theorem wpList_copy_runI {P : Program} (w : World) {ops : Array Oper} {rest : List Oper} {o : Oper} {a : Act} {Q : Exit → Act → World → Prop} (hgd : o.guard = none) (d s : Operand) (t t' : TypeId)
  (ho : o.op = .call { callee := .builtin .copy, args := #[d, s], argTypes := #[t, t'] }) (v u : Value) (hd : a.eval d = v) (hs : a.eval s = u) {v' : Value} {w' : World}
  (hr : (Builtin.copy_ #[t, t'] o.type #[v, u]).run P w = .ok v' w') (h : wpList P ops Q rest (a.put o.dst v') w') : wpList P ops Q (o :: rest) a w :=
 wpList_plain hgd fun _ hK => wp_copy_runI w d s t t' ho v u hd hs hr (hK _ _ h)
theorem step_copy_runI {P : Program} {ops : Array Oper} {o : Oper} {a : Act} {w : World} {K : Act → World → Prop} {Q : Exit → Act → World → Prop} {E : Prop}
  (hg : o.guard = none) (d x : Operand) (dT sT : TypeId) (hop : o.op = Op.call { callee := Callee.builtin Builtin.copy, args := #[d, x], argTypes := #[dT, sT] })
  (v u : Value) (hd : a.eval d = v) (hx : a.eval x = u) {v' : Value} {w' : World} (hr : (Builtin.copy_ #[dT, sT] o.type #[v, u]).run P w = .ok v' w') (hK : K (a.put o.dst v') w') :
  if Region.wanted o (yielded ops a.tmps) = true then Oper.wp P o a w K Q else E := by
 have hw : Region.wanted o (yielded ops a.tmps) = true := by simp [Region.wanted, hg]
 rw [if_pos hw]
 unfold Oper.wp
 simp [execOp, hop, resolve, invoke, builtin, hd, hx, hr, Result.andThen]
 exact hK
theorem drew_setCells (b : Nat) : ∀ (vs : List Value) (o : Nat) (w : World), w.drew.setCells b o vs = (w.setCells b o vs).drew
 | [], _, _ => rfl
 | v :: r, o, w => by rw [World.setCells, World.setCells, ← drew_setCells b r]; rfl
theorem own_drew {w : World} {base size n : Nat} {e : TypeId} {v : Value} {xs : List Value} (h : w.ownsRow base e size v n xs) : w.drew.ownsRow base e size v n xs := h
theorem grown_drew {w w' : World} {row : Option Nat} (h : w.grownBy w' row) : w.grownBy w'.drew row := ⟨h.os, h.tape, h.output, h.size, h.block⟩
theorem isSome_setCells (b : Nat) (vs : List Value) (o : Nat) (w : World) (h : ∀ j, j < vs.length → (w.cell? ⟨b, o + j, none⟩).isSome = true) (k : Nat) (hk : (w.cell? ⟨b, k, none⟩).isSome = true) : ((w.setCells b o vs).cell? ⟨b, k, none⟩).isSome = true := by
 by_cases hin : o ≤ k ∧ k < o + vs.length
 ·
  have := World.cell?_setCells_in b vs o w h (k - o) (by omega)
  rw [show o + (k - o) = k by omega] at this
  rw [this]; rfl
 ·
  rw [World.cell?_setCells_out b vs o w ⟨b, k, none⟩ (fun _ _ => by show k < o ∨ o + vs.length ≤ k; omega)]
  exact hk
theorem run_copy_cellsN {P : Program} (w : World) (dT sT ty elem : TypeId) (sz b o dLen dCap : Nat) (a : Addr) (sLen sCap : Nat) (cs : List Value)
  (hu : P.underlying dT = some (.slice elem)) (hs : (P.info? elem).map (·.size) = some sz) (hn : cs.length = Nat.min sLen dLen * sz)
  (hsrc : ∀ j v, cs[j]? = some v → w.cell? (a.add j) = some v) (hc : ∀ j, j < cs.length → (w.cell? ⟨b, o + j, none⟩).isSome = true) (hf : ∀ j, j < cs.length → w.frozen? ⟨b, o + j, none⟩ = false) (h1 : ∀ v ∈ cs, v.oneCell' = true) :
  (Builtin.copy_ #[dT, sT] ty #[.slice (some ⟨b, o, none⟩) dLen dCap, .slice (some a) sLen sCap]).run P w = .ok (goInt (Nat.min sLen dLen)) (w.setCells b o cs) := by
 have hl := run_firstCells_some (P := P) (w := w) sz (Nat.min sLen dLen) a sLen sCap cs hn hsrc
 have hst := run_storeCells_cells (P := P) b o cs 0 w (by simpa using hc) (by simpa using hf) h1
 cases hq : P.info? elem with
 | none => simp [hq] at hs
 | some i =>
  have hi : i.size = sz := by simpa [hq] using hs
  simp [Builtin.copy_, run_underlying hu, Builtin.lenOf, sizeOf, typeInfo, hq, hi, hl, hst]
theorem own_of_block {w : World} {base n cap g size : Nat} {e : TypeId} {cur : Array Value} (hb : base ≤ g) (hh : w.heap[g]? = some (.cells cur e (0, 0))) (hnc : n ≤ cap) (hcm : cap ≤ maxLen) (hcs : cur.size = cap * size) : w.ownsRow base e size (.slice (some ⟨g, 0, none⟩) n cap) n (cur.toList.take (n * size)) :=
 ⟨by rw [List.length_take, Array.length_toList, hcs]; exact Nat.min_eq_left (Nat.mul_le_mul_right _ hnc), .inr ⟨g, cap, cur, rfl, hb, hh, hnc, hcm, hcs, rfl⟩⟩
theorem ins_list {cs : List Value} {vs : List Value} {k s t n : Nat} (hk : k ≤ n) (cur : List Value) (hc : cur.take n = cs) (hs : vs.length = s) (ht : n + s = t) (hl : t ≤ cur.length) :
  (((cur.take (k + s) ++ cs.drop k ++ cur.drop (k + s + (cs.drop k).length)).take k ++ vs ++ (cur.take (k + s) ++ cs.drop k ++ cur.drop (k + s + (cs.drop k).length)).drop (k + vs.length))).take t = cs.take k ++ vs ++ cs.drop k := by
 have hn : cs.length = n := by rw [← hc, List.length_take]; omega
 have h1 : (cur.take (k + s) ++ cs.drop k ++ cur.drop (k + s + (cs.drop k).length)).take k = cs.take k := by
  rw [List.append_assoc, List.take_append_of_le_length (by rw [List.length_take]; omega), List.take_take, Nat.min_eq_left (by omega)]
  rw [← hc, List.take_take, Nat.min_eq_left hk]
 have h2 : (cur.take (k + s) ++ cs.drop k ++ cur.drop (k + s + (cs.drop k).length)).drop (k + vs.length) = cs.drop k ++ cur.drop (k + s + (cs.drop k).length) := by
  rw [hs, List.append_assoc, List.drop_append_of_le_length (by rw [List.length_take]; omega), List.drop_eq_nil_of_le (by rw [List.length_take]; omega), List.nil_append]
 rw [h1, h2, ← List.append_assoc, List.take_append_of_le_length (by simp only [List.length_append, List.length_take, List.length_drop]; omega), List.take_of_length_le (by simp only [List.length_append, List.length_take, List.length_drop]; omega)]
set_option maxHeartbeats 4000000 in
set_option maxRecDepth 100000 in
theorem insI_shift (b n c i vb : Nat) (base : Nat) (cs vs : List Value) (w : World) (ho : w.ownsRow base 3 1 (.slice (some ⟨b, 0, none⟩) n c) n cs) (hi : i < n) (hroom : n + 1 ≤ c) (hvb : w.heap[vb]? = some (.cells vs.toArray 3 (0, 0))) (hne : vb ≠ b) (hvl : vs.length = 1) (h1v : ∀ v ∈ vs, v.oneCell' = true) (h1c : ∀ v ∈ cs, v.oneCell' = true) :
  Calls Try.prog 90 #[.slice (some ⟨b, 0, none⟩) n c, .int .i64 i, .slice (some ⟨vb, 0, none⟩) 1 1] w fun e w' =>
   e = .returned (.slice (some ⟨b, 0, none⟩) (n + 1) c) ∧ w'.ownsRow base 3 1 (.slice (some ⟨b, 0, none⟩) (n + 1) c) (n + 1) (cs.take (i) ++ vs ++ cs.drop (i)) ∧ w.grownBy w' (some b) := by
 have hcs := ho.cells (g := b) rfl
 obtain ⟨hlen, hor⟩ := ho
 rcases hor with ⟨h0, _⟩ | ⟨g, cap, cur, hv, hbase, hh, hnc, hcm, hcsz, htk⟩
 ·
  cases h0
 injection hv with ha _ hc
 injection ha with ha
 injection ha with hg
 subst hg hc
 have hc63 : c ≤ 9223372036854775807 := by unfold maxLen at hcm; omega
 have hsp : ∀ j, j < c * 1 → (w.cell? ⟨b, j, none⟩).isSome = true := fun j hj => by
  rw [blk_cell hh j, Array.getElem?_eq_getElem (by omega)]; rfl
 have hfz : ∀ j, w.frozen? ⟨b, j, none⟩ = false := fun j => blk_frozen hh j
 have hvs : ∀ j v, vs[j]? = some v → w.cell? ⟨vb, j, none⟩ = some v := fun j v h => by rw [blk_cell hvb j]; simpa using h
 have hz2 : ¬ ((i : Int) = (n : Int)) := by omega
 have hsz : (Try.prog.info? 3).map (·.size) = some 1 := by kernel_rfl
 have hov : ∀ lb cb, (callFunc 110 #[.slice (some ⟨vb, 0, none⟩) 1 1, .slice (some ⟨b, i + 1, none⟩) lb cb]).run Try.prog w = .ok (.value (.bool false)) w := fun lb cb => by
  rw [run_callFunc_extern Try.func110 (by kernel_rfl) (by kernel_rfl) (by kernel_rfl) (e := Extern.SlicesOverlaps.overlaps #[61, 61] #[4]) (by kernel_rfl),
   Lib.run_overlaps_apart w 61 4 3 Try.underlying61 1 (fun W => by kernel_rfl) ⟨vb, 0, none⟩ ⟨b, i + 1, none⟩ 1 1 lb cb hne 3 3 vs.toArray.size cur.size (by simp [World.shape?, hvb]) (by simp [World.shape?, hh]) (by omega) (blk_frozen hvb _) (blk_frozen hvb _)]
  rfl
 have hdl : (cs.drop (i)).length = (n - i) * 1 := by rw [List.length_drop, hlen]; omega
 have hcp1 : ∀ ty dc sc, (Builtin.copy_ #[61, 61] ty #[.slice (some ⟨b, i + 1, none⟩) (n - i) dc, .slice (some ⟨b, i, none⟩) (n + 1 - i) sc]).run Try.prog w.drew = .ok (goInt (Nat.min (n + 1 - i) (n - i))) (w.drew.setCells b (i + 1) (cs.drop (i))) := fun ty dc sc =>
  run_copy_cellsN w.drew 61 61 ty 3 1 b (i + 1) (n - i) dc ⟨b, i, none⟩ (n + 1 - i) sc (cs.drop (i)) Try.underlying61 hsz (by rw [hdl]; congr 1; simp only [Nat.min_def]; split <;> omega)
   (fun j v hj => by rw [Addr.add_lit]; have := hcs (i + j) v (by rwa [List.getElem?_drop] at hj); rwa [add_plain] at this)
   (fun j hj => hsp _ (by omega)) (fun j hj => hfz _) (fun v hv => h1c v (List.mem_of_mem_drop hv))
 obtain ⟨W1, hW1⟩ : ∃ W1, W1 = w.drew.setCells b (i + 1) (cs.drop (i)) := ⟨_, rfl⟩
 have hsp1 : ∀ k, k < c * 1 → (W1.cell? ⟨b, k, none⟩).isSome = true := fun k hk => by
  rw [hW1]
  exact isSome_setCells b (cs.drop (i)) (i + 1) w.drew (fun j hj => hsp (i + 1 + j) (by omega)) k (hsp k hk)
 have hcp2 : ∀ (W : World), (∀ x, W.cell? x = W1.cell? x) → (∀ x, W.frozen? x = W1.frozen? x) → ∀ ty dc, (Builtin.copy_ #[61, 61] ty #[.slice (some ⟨b, i, none⟩) (n + 1 - i) dc, .slice (some ⟨vb, 0, none⟩) 1 1]).run Try.prog W = .ok (goInt (Nat.min 1 (n + 1 - i))) (W.setCells b (i) vs) := fun W hWc hWf ty dc =>
  run_copy_cellsN W 61 61 ty 3 1 b (i) (n + 1 - i) dc ⟨vb, 0, none⟩ 1 1 vs Try.underlying61 hsz (by rw [hvl, show Nat.min 1 (n + 1 - i) = 1 from Nat.min_eq_left (by omega)]; try omega)
   (fun j v hj => by
    rw [Addr.add_lit, hWc, hW1, World.cell?_setCells_out b _ _ _ _ (fun h _ => absurd h hne)]
    have := hvs j v hj
    simpa using this)
   (fun j hj => by rw [hWc]; exact hsp1 _ (by omega)) (fun j hj => by rw [hWf, hW1, World.frozen?_setCells]; exact hfz _) h1v
 have hfin : ((w.drew.setCells b (i + 1) (cs.drop (i))).setCells b (i) vs).ownsRow base 3 1 (.slice (some ⟨b, 0, none⟩) (n + 1) c) (n + 1) (cs.take (i) ++ vs ++ cs.drop (i)) := by
  obtain ⟨cur1, g1, g2, g3⟩ := setCells_row (cs.drop (i)) (i + 1) w.drew cur (show w.drew.heap[b]? = _ from hh) (by omega)
  obtain ⟨cur2, g4, g5, g6⟩ := setCells_row vs (i) _ cur1 g1 (by omega)
  have h := own_of_block (n := n + 1) (cap := c) (size := 1) hbase g4 hroom hcm (by omega)
  have hli := ins_list (cs := cs) (vs := vs) (k := i) (s := 1) (t := (n + 1) * 1) (n := n * 1) (by omega) cur.toList htk hvl (by omega) (by rw [Array.length_toList]; omega)
  have e1 : i + 1 = i + 1 := by omega
  (try rw [e1] at hli)
  rw [g6, g3, hli] at h
  exact h
 have HFIN := Aside0.mk hfin
 have HGR : Aside0 (w.grownBy ((w.drew.setCells b (i + 1) (cs.drop (i))).setCells b (i) vs) (some b)) := ⟨by
  have h := World.grownBy.trans (grown_cells w.drew b (i + 1) (cs.drop (i))) (grown_cells _ b (i) vs)
  exact ⟨h.os, h.tape, h.output, h.size, h.block⟩⟩
 have hw1 : IntKind.i64.wrap ((i : Int) + (1 : Int)) = (i : Int) + (1 : Int) := by rw [IntKind.wrap_i64]; omega
 have hb1 : (0 : Int) ≤ (i : Int) + (1 : Int) := by omega
 have hin : i ≤ n := by omega
 have htn : ((i : Int) + (1 : Int)).toNat = i + 1 := by omega
 have hb2 : ¬ (c = i + 1) := by omega
 have hb3 : (i : Int) ≤ (n : Int) + (1 : Int) := by omega
 have hb4 : ¬ (c = i) := by omega
 rw [← hW1] at hcp1
 have HW1 := Aside0.mk hW1
 clear hcs hlen htk hh hvb hcsz hsp hfz hvs hdl hsp1 hfin hvl h1v h1c hsz hW1
 go_enter Try.func90, Try.ntmps90
 go_wp2_with (simp only [hov])
 go_region_law (refine step_copy_runI rfl _ _ 61 61 rfl _ _ (by simp [Act.eval, Act.put]) (by simp [Act.eval, Act.put]) (hcp1 _ _ _) ?_)
 go_wp2_with (at_builtin; refine wpList_copy_runI _ rfl _ _ 61 61 rfl _ _ rfl rfl (hcp2 _ (fun _ => rfl) (fun _ => rfl) _ _) ?_)
 go_ret
 first | exact ⟨rfl, HFIN.out, HGR.out⟩ | exact ⟨rfl, by rw [HW1.out]; exact HFIN.out, by rw [HW1.out]; exact HGR.out⟩
set_option maxHeartbeats 4000000 in
set_option maxRecDepth 100000 in
theorem insI_end (v : Value) (n vb : Nat) (base : Nat) (cs vs : List Value) (w : World) (ho : w.ownsRow base 3 1 v n cs) (hvb : w.heap[vb]? = some (.cells vs.toArray 3 (0, 0))) (hvl : vs.length = 1) (h1v : ∀ v ∈ vs, v.oneCell' = true) (hn : n < 1000000000) (hbase : base ≤ w.heap.size) :
  Calls Try.prog 90 #[v, .int .i64 n, .slice (some ⟨vb, 0, none⟩) 1 1] w fun e w' =>
   ∃ v', e = .returned v' ∧ w'.ownsRow base 3 1 v' (n + 1) (cs ++ vs) ∧ w.grownBy w' v.ownBlock ∧ (v'.ownBlock = v.ownBlock ∨ v'.ownBlock = some w.heap.size) := by
 obtain ⟨A, c, rfl⟩ := own_slice ho
 have hle := own_le ho
 have hvs : ∀ j v, vs[j]? = some v → w.cell? ((⟨vb, 0, none⟩ : Addr).add j) = some v := fun j v h => by rw [add_plain, blk_cell hvb j]; simpa using h
 have HO := Aside0.mk ho
 have HVS := Aside0.mk hvs
 have HVL := Lib.hid hvl
 have H1V := Aside0.mk h1v
 obtain ⟨i0, hi0, hz0, hzs, hzb⟩ := info_parts info3
 have HI0 := Aside0.mk hi0
 have HZ0 := Aside0.mk hz0
 have HZS := Aside0.mk hzs
 have HZB := Aside0.mk hzb
 have hc1 : ¬ c = n ∨ n = c := by omega
 clear ho hvs hvl h1v hvb hi0 hz0 hzs hzb
 go_enter Try.func90, Try.ntmps90
 rcases hc1 with hc | rfl
 all_goals
  cases A with
  | none =>
   have h0 : n = 0 := by
    rcases HO.out.2 with ⟨h, h2⟩ | ⟨g, cap, cur, h, _⟩
    ·
     exact h2
    ·
     cases h
   subst h0
   go_wp2_with (at_builtin; refine wpList_append_own_at _ rfl _ _ 61 rfl base 3 i0 _ 1 8 Try.underlying61 HI0.out HZ0.out HZS.out HZB.out rfl (by decide) _ _ cs rfl HO.out ⟨vb, 0, none⟩ 1 1 vs rfl (by rw [HVL.out]) HVS.out H1V.out (by unfold maxLen; omega) (by omega) hbase ?_; intro v' w1 hown hg _ hat; have HOWN := Aside0.mk hown; have HG := Aside0.mk hg; have HAT := Aside0.mk hat; clear hown hg hat)
   go_ret
   exact ⟨_, rfl, HOWN.out, HG.out, HAT.out⟩
  | some ad =>
   go_wp2_with (at_builtin; refine wpList_append_own_at _ rfl _ _ 61 rfl base 3 i0 _ 1 8 Try.underlying61 HI0.out HZ0.out HZS.out HZB.out rfl (by decide) _ _ cs rfl HO.out ⟨vb, 0, none⟩ 1 1 vs rfl (by rw [HVL.out]) HVS.out H1V.out (by unfold maxLen; omega) (by omega) hbase ?_; intro v' w1 hown hg _ hat; have HOWN := Aside0.mk hown; have HG := Aside0.mk hg; have HAT := Aside0.mk hat; clear hown hg hat)
   go_ret
   exact ⟨_, rfl, HOWN.out, HG.out, HAT.out⟩
set_option maxHeartbeats 4000000 in
set_option maxRecDepth 100000 in
theorem insI_grow (b n c i vb : Nat) (base : Nat) (cs vs : List Value) (w : World) (ho : w.ownsRow base 3 1 (.slice (some ⟨b, 0, none⟩) n c) n cs) (hi : i < n) (hroom : c < n + 1) (hvb : w.heap[vb]? = some (.cells vs.toArray 3 (0, 0))) (hvl : vs.length = 1) (h1v : ∀ v ∈ vs, v.oneCell' = true) (h1c : ∀ v ∈ cs, v.oneCell' = true) (hn : n < 1000000000) (hbase : base ≤ w.heap.size) :
  Calls Try.prog 90 #[.slice (some ⟨b, 0, none⟩) n c, .int .i64 i, .slice (some ⟨vb, 0, none⟩) 1 1] w fun e w' =>
   ∃ v', e = .returned v' ∧ w'.ownsRow base 3 1 v' (n + 1) (cs.take (i) ++ vs ++ cs.drop (i)) ∧ w.grownBy w' none ∧ v'.ownBlock = some w.heap.size := by
 have hcs := ho.cells (g := b) rfl
 have hnc := own_le ho
 have hcl : cs.length = n * 1 := ho.1
 have hbw : b < w.heap.size := own_lt ho b (by simp [Value.ownBlock])
 have hvs : ∀ j v, vs[j]? = some v → w.cell? ⟨vb, j, none⟩ = some v := fun j v h => by rw [blk_cell hvb j]; simpa using h
 have hvw : vb < w.heap.size := blk_lt hvb
 obtain ⟨i0, hi0, hz0, hzs, hzb⟩ := info_parts info3
 have hz2 : ¬ ((i : Int) = (n : Int)) := by omega
 have hz3 : (c : Int) < (n : Int) + (1 : Int) := by omega
 have hsz : (Try.prog.info? 3).map (·.size) = some 1 := by rw [hi0]; simp [hzs]
 have hkk : (n : Int) + (1 : Int) - (i : Int) = ((n + 1 - i : Nat) : Int) := by omega
 have hik : i + (n + 1 - i) = n + 1 := by omega
 have hold : (Builtin.firstCells i0.size i (.slice (some ⟨b, 0, none⟩) i c)).run Try.prog w.drew = .ok (cs.take (i)).toArray w.drew := by
  rw [hzs]
  exact run_firstCells_some w.drew 1 i ⟨b, 0, none⟩ i c (cs.take (i)) (by rw [List.length_take]; omega) (fun j v hj => by
   rw [List.getElem?_take] at hj
   split at hj
   ·
    exact hcs j v hj
   ·
    cases hj)
 have hrz : ∀ ty, (Builtin.append_ #[61, 3] ty #[.slice (some ⟨b, 0, none⟩) i c, .int .i64 ((n : Int) + (1 : Int) - (i : Int))]).run Try.prog w =
   .ok (.slice (some ⟨w.heap.size, 0, none⟩) (n + 1) (grownCap w (n + 1) c 3)) (w.drew.alloc (.cells ((cs.take (i)).toArray ++ Builtin.zeroCells (Value.int .i64 0).cells (n + 1 - i) ++ Builtin.zeroCells (Value.int .i64 0).cells (grownCap w (n + 1) c 3 - (n + 1))) 3)) := fun ty => by
  have h := Lib.run_append_grow_zeros w 61 3 ty 3 i0 _ .i64 .i64 Try.underlying61 Try.underlying3 hi0 hz0 (some ⟨b, 0, none⟩) i c (cs.take (i)) hold (n + 1 - i) (by omega) (by omega) (by omega) (by omega) (by rw [hzb]; omega) (by rw [hzb, hik]; exact growslice_fits hroom (by omega))
  rw [hik] at h
  rw [hkk]
  exact h
 obtain ⟨G, hG⟩ : ∃ G, G = grownCap w (n + 1) c 3 := ⟨_, rfl⟩
 obtain ⟨ROW, hROW⟩ : ∃ ROW : Array Value, ROW = (cs.take (i)).toArray ++ Builtin.zeroCells (Value.int .i64 0).cells (n + 1 - i) ++ Builtin.zeroCells (Value.int .i64 0).cells (G - (n + 1)) := ⟨_, rfl⟩
 rw [← hG] at hrz
 rw [← hROW] at hrz
 have hGn : n + 1 ≤ G := by rw [hG]; exact grownCap_ge w _ _ _
 have hGm : G ≤ maxLen := by rw [hG]; exact grownCap_le_maxLen w (n + 1) c 3 (by unfold maxLen; omega)
 have hG63 : G ≤ 9223372036854775807 := by unfold maxLen at hGm; omega
 have hRl : ROW.size = G * 1 := by
  rw [hROW]
  simp [Builtin.zeroCells, Value.cells]
  omega
 have hRt : ROW.toList.take (i) = cs.take (i) := by
  rw [hROW, Array.toList_append, Array.toList_append, List.append_assoc, List.take_append_of_le_length (by simp <;> omega), List.take_of_length_le (by simp <;> omega)]
 obtain ⟨W1, hW1⟩ : ∃ W1, W1 = w.drew.alloc (.cells ROW 3) := ⟨_, rfl⟩
 rw [← hW1] at hrz
 have hW1b : W1.heap[w.heap.size]? = some (.cells ROW 3 (0, 0)) := by rw [hW1]; exact World.alloc_heap_new w.drew _
 have hN : ∀ j, j < G * 1 → (W1.cell? ⟨w.heap.size, j, none⟩).isSome = true := fun j hj => by
  rw [blk_cell hW1b j, Array.getElem?_eq_getElem (by omega)]; rfl
 have hNf : ∀ j, W1.frozen? ⟨w.heap.size, j, none⟩ = false := fun j => blk_frozen hW1b j
 have hOb : ∀ j v, w.cell? ⟨b, j, none⟩ = some v → W1.cell? ⟨b, j, none⟩ = some v := fun j v h => by rw [hW1, World.cell?_alloc_past (w := w.drew) _ b j hbw]; exact h
 have hOv : ∀ j v, w.cell? ⟨vb, j, none⟩ = some v → W1.cell? ⟨vb, j, none⟩ = some v := fun j v h => by rw [hW1, World.cell?_alloc_past (w := w.drew) _ vb j hvw]; exact h
 have hcpA : ∀ (W : World), (∀ x, W.cell? x = W1.cell? x) → (∀ x, W.frozen? x = W1.frozen? x) → ∀ ty dc, (Builtin.copy_ #[61, 61] ty #[.slice (some ⟨w.heap.size, i, none⟩) (n + 1 - i) dc, .slice (some ⟨vb, 0, none⟩) 1 1]).run Try.prog W = .ok (goInt (Nat.min 1 (n + 1 - i))) (W.setCells w.heap.size (i) vs) := fun W hWc hWf ty dc =>
  run_copy_cellsN W 61 61 ty 3 1 w.heap.size (i) (n + 1 - i) dc ⟨vb, 0, none⟩ 1 1 vs Try.underlying61 hsz (by rw [hvl, show Nat.min 1 (n + 1 - i) = 1 from Nat.min_eq_left (by omega)]; try omega)
   (fun j v hj => by rw [Addr.add_lit, hWc]; have := hOv _ v (hvs j v hj); simpa using this)
   (fun j hj => by rw [hWc]; exact hN _ (by omega)) (fun j hj => by rw [hWf]; exact hNf _) h1v
 have hGi : ¬ (G = i) := by omega
 have hGim : ¬ (G = i + 1) := by omega
 have hci : ¬ (c = i) := by omega
 have hbN : b ≠ w.heap.size := by omega
 have hdl : (cs.drop (i)).length = (n - i) * 1 := by rw [List.length_drop, hcl]; omega
 have hcpB : ∀ (W : World), (∀ x, W.cell? x = (W1.setCells w.heap.size (i) vs).cell? x) → (∀ x, W.frozen? x = (W1.setCells w.heap.size (i) vs).frozen? x) → ∀ ty dc sc, (Builtin.copy_ #[61, 61] ty #[.slice (some ⟨w.heap.size, i + 1, none⟩) (n - i) dc, .slice (some ⟨b, i, none⟩) (n - i) sc]).run Try.prog W = .ok (goInt (Nat.min (n - i) (n - i))) (W.setCells w.heap.size (i + 1) (cs.drop (i))) := fun W hWc hWf ty dc sc =>
  run_copy_cellsN W 61 61 ty 3 1 w.heap.size (i + 1) (n - i) dc ⟨b, i, none⟩ (n - i) sc (cs.drop (i)) Try.underlying61 hsz (by rw [hdl]; congr 1; exact (Nat.min_self _).symm)
   (fun j v hj => by
    rw [Addr.add_lit, hWc, World.cell?_setCells_out _ _ _ _ _ (fun h _ => absurd h hbN)]
    have := hcs (i + j) v (by rwa [List.getElem?_drop] at hj)
    rw [add_plain] at this
    exact hOb _ v this)
   (fun j hj => by rw [hWc]; exact isSome_setCells w.heap.size vs (i) W1 (fun t ht => hN _ (by omega)) _ (hN _ (by omega)))
   (fun j hj => by rw [hWf, World.frozen?_setCells]; exact hNf _) (fun v hv => h1c v (List.mem_of_mem_drop hv))
 have hfin : ((W1.setCells w.heap.size (i) vs).setCells w.heap.size (i + 1) (cs.drop (i))).ownsRow base 3 1 (.slice (some ⟨w.heap.size, 0, none⟩) (n + 1) G) (n + 1) (cs.take (i) ++ vs ++ cs.drop (i)) := by
  obtain ⟨cur1, g1, g2, g3⟩ := setCells_row vs (i) W1 ROW hW1b (by omega)
  obtain ⟨cur2, g4, g5, g6⟩ := setCells_row (cs.drop (i)) (i + 1) _ cur1 g1 (by omega)
  have h := own_of_block (n := n + 1) (cap := G) (size := 1) (e := 3) hbase g4 hGn hGm (by omega)
  have hlen1 : (cs.take (i)).length = i := by rw [List.length_take]; omega
  rw [g6, g3, hRt] at h
  rw [show (cs.take (i) ++ vs ++ ROW.toList.drop (i + vs.length)).take (i + 1) = cs.take (i) ++ vs from by
   rw [List.take_append_of_le_length (by rw [List.length_append]; omega), List.take_of_length_le (by rw [List.length_append]; omega)]] at h
  rw [List.take_append_of_le_length (by simp only [List.length_append, hlen1, hdl]; omega), List.take_of_length_le (by simp only [List.length_append, hlen1, hdl]; omega)] at h
  exact h
 have HFIN := Aside0.mk hfin
 have HGR : Aside0 (w.grownBy ((W1.setCells w.heap.size (i) vs).setCells w.heap.size (i + 1) (cs.drop (i))) none) := ⟨by
  have h0 : w.grownBy W1 none := by
   rw [hW1]
   have h := World.grownBy_alloc w.drew (.cells ROW 3) none
   exact ⟨h.os, h.tape, h.output, h.size, h.block⟩
  have h1 := World.grownBy.trans (grown_cells W1 w.heap.size (i) vs) (grown_cells _ w.heap.size (i + 1) (cs.drop (i)))
  exact ⟨h1.os.trans h0.os, h1.tape.trans h0.tape, h1.output.trans h0.output, Nat.le_trans h0.size h1.size, fun k hk hne => (h1.block k (Nat.lt_of_lt_of_le hk h0.size) (fun he => by injection he with he; omega)).trans (h0.block k hk hne)⟩⟩
 have HW1 := Aside0.mk hW1
 subst hW1
 have hE1 : ∀ x, ((w.alloc (.cells ROW 3)).drew).cell? x = (w.drew.alloc (.cells ROW 3)).cell? x := fun x => rfl
 have hE2 : ∀ x, ((w.alloc (.cells ROW 3)).drew).frozen? x = (w.drew.alloc (.cells ROW 3)).frozen? x := fun x => rfl
 have hF1 : ∀ x, (((w.alloc (.cells ROW 3)).drew.setCells w.heap.size (i) vs).drew).cell? x = ((w.drew.alloc (.cells ROW 3)).setCells w.heap.size (i) vs).cell? x := fun x => rfl
 have hF2 : ∀ x, (((w.alloc (.cells ROW 3)).drew.setCells w.heap.size (i) vs).drew).frozen? x = ((w.drew.alloc (.cells ROW 3)).setCells w.heap.size (i) vs).frozen? x := fun x => rfl
 have hw1 : IntKind.i64.wrap ((i : Int) + (1 : Int)) = (i : Int) + (1 : Int) := by rw [IntKind.wrap_i64]; omega
 have hb1 : (0 : Int) ≤ (i : Int) + (1 : Int) := by omega
 have hin : i ≤ n := by omega
 have htn : ((i : Int) + (1 : Int)).toNat = i + 1 := by omega
 have hb3 : (i : Int) ≤ (n : Int) := by omega
 clear hkk hik hold hROW hG hRl hRt hcs hcl hvs hvl h1v h1c hsz hi0 hz0 hzs hzb hfin hW1b hN hNf hOb hOv hdl hGm hvb ho
 go_enter Try.func90, Try.ntmps90
 go_wp2_with (first
  | (at_builtin; refine Lib.wpList_append_run _ rfl _ _ _ _ rfl _ _ rfl rfl _ _ (hrz _) ?_)
  | (at_builtin; refine wpList_copy_runI _ rfl _ _ 61 61 rfl _ _ rfl rfl (hcpA _ hE1 hE2 _ _) ?_)
  | (at_builtin; refine wpList_copy_runI _ rfl _ _ 61 61 rfl _ _ rfl rfl (hcpB _ (fun _ => rfl) (fun _ => rfl) _ _ _) ?_))
 go_region_law (refine step_copy_runI rfl _ _ 61 61 rfl (.slice (some ⟨w.heap.size, i + 1, none⟩) (n - i) (G - (i + 1))) (.slice (some ⟨b, i, none⟩) (n - i) (c - i)) (by simp [Act.eval, Act.put]) (by simp [Act.eval, Act.put]) (hcpB _ hF1 hF2 3 (G - (i + 1)) (c - i)) ?_)
 go_wp2
 go_ret
 refine ⟨_, rfl, ?_, ?_, rfl⟩
 ·
  exact (drew_setCells w.heap.size (cs.drop (i)) (i + 1) ((w.drew.alloc (.cells ROW 3)).setCells w.heap.size (i) vs)).symm ▸ own_drew HFIN.out
 ·
  exact (drew_setCells w.heap.size (cs.drop (i)) (i + 1) ((w.drew.alloc (.cells ROW 3)).setCells w.heap.size (i) vs)).symm ▸ grown_drew HGR.out
set_option maxHeartbeats 4000000 in
set_option maxRecDepth 100000 in
theorem insA_shift (b n c i vb : Nat) (base : Nat) (cs vs : List Value) (w : World) (ho : w.ownsRow base 68 2 (.slice (some ⟨b, 0, none⟩) n c) n cs) (hi : i < n) (hroom : n + 1 ≤ c) (hvb : w.heap[vb]? = some (.cells vs.toArray 68 (0, 0))) (hne : vb ≠ b) (hvl : vs.length = 2) (h1v : ∀ v ∈ vs, v.oneCell' = true) (h1c : ∀ v ∈ cs, v.oneCell' = true) :
  Calls Try.prog 95 #[.slice (some ⟨b, 0, none⟩) n c, .int .i64 i, .slice (some ⟨vb, 0, none⟩) 1 1] w fun e w' =>
   e = .returned (.slice (some ⟨b, 0, none⟩) (n + 1) c) ∧ w'.ownsRow base 68 2 (.slice (some ⟨b, 0, none⟩) (n + 1) c) (n + 1) (cs.take (i * 2) ++ vs ++ cs.drop (i * 2)) ∧ w.grownBy w' (some b) := by
 have hcs := ho.cells (g := b) rfl
 obtain ⟨hlen, hor⟩ := ho
 rcases hor with ⟨h0, _⟩ | ⟨g, cap, cur, hv, hbase, hh, hnc, hcm, hcsz, htk⟩
 ·
  cases h0
 injection hv with ha _ hc
 injection ha with ha
 injection ha with hg
 subst hg hc
 have hc63 : c ≤ 9223372036854775807 := by unfold maxLen at hcm; omega
 have hsp : ∀ j, j < c * 2 → (w.cell? ⟨b, j, none⟩).isSome = true := fun j hj => by
  rw [blk_cell hh j, Array.getElem?_eq_getElem (by omega)]; rfl
 have hfz : ∀ j, w.frozen? ⟨b, j, none⟩ = false := fun j => blk_frozen hh j
 have hvs : ∀ j v, vs[j]? = some v → w.cell? ⟨vb, j, none⟩ = some v := fun j v h => by rw [blk_cell hvb j]; simpa using h
 have hz2 : ¬ ((i : Int) = (n : Int)) := by omega
 have hsz : (Try.prog.info? 68).map (·.size) = some 2 := by kernel_rfl
 have hov : ∀ lb cb, (callFunc 118 #[.slice (some ⟨vb, 0, none⟩) 1 1, .slice (some ⟨b, (i + 1) * 2, none⟩) lb cb]).run Try.prog w = .ok (.value (.bool false)) w := fun lb cb => by
  rw [run_callFunc_extern Try.func118 (by kernel_rfl) (by kernel_rfl) (by kernel_rfl) (e := Extern.SlicesOverlaps.overlaps #[48, 48] #[4]) (by kernel_rfl),
   Lib.run_overlaps_apart w 48 4 68 Try.underlying48 2 (fun W => by kernel_rfl) ⟨vb, 0, none⟩ ⟨b, (i + 1) * 2, none⟩ 1 1 lb cb hne 68 68 vs.toArray.size cur.size (by simp [World.shape?, hvb]) (by simp [World.shape?, hh]) (by omega) (blk_frozen hvb _) (blk_frozen hvb _)]
  rfl
 have hdl : (cs.drop (i * 2)).length = (n - i) * 2 := by rw [List.length_drop, hlen]; omega
 have hcp1 : ∀ ty dc sc, (Builtin.copy_ #[48, 48] ty #[.slice (some ⟨b, (i + 1) * 2, none⟩) (n - i) dc, .slice (some ⟨b, i * 2, none⟩) (n + 1 - i) sc]).run Try.prog w.drew = .ok (goInt (Nat.min (n + 1 - i) (n - i))) (w.drew.setCells b ((i + 1) * 2) (cs.drop (i * 2))) := fun ty dc sc =>
  run_copy_cellsN w.drew 48 48 ty 68 2 b ((i + 1) * 2) (n - i) dc ⟨b, i * 2, none⟩ (n + 1 - i) sc (cs.drop (i * 2)) Try.underlying48 hsz (by rw [hdl]; congr 1; simp only [Nat.min_def]; split <;> omega)
   (fun j v hj => by rw [Addr.add_lit]; have := hcs (i * 2 + j) v (by rwa [List.getElem?_drop] at hj); rwa [add_plain] at this)
   (fun j hj => hsp _ (by omega)) (fun j hj => hfz _) (fun v hv => h1c v (List.mem_of_mem_drop hv))
 obtain ⟨W1, hW1⟩ : ∃ W1, W1 = w.drew.setCells b ((i + 1) * 2) (cs.drop (i * 2)) := ⟨_, rfl⟩
 have hsp1 : ∀ k, k < c * 2 → (W1.cell? ⟨b, k, none⟩).isSome = true := fun k hk => by
  rw [hW1]
  exact isSome_setCells b (cs.drop (i * 2)) ((i + 1) * 2) w.drew (fun j hj => hsp ((i + 1) * 2 + j) (by omega)) k (hsp k hk)
 have hcp2 : ∀ (W : World), (∀ x, W.cell? x = W1.cell? x) → (∀ x, W.frozen? x = W1.frozen? x) → ∀ ty dc, (Builtin.copy_ #[48, 48] ty #[.slice (some ⟨b, i * 2, none⟩) (n + 1 - i) dc, .slice (some ⟨vb, 0, none⟩) 1 1]).run Try.prog W = .ok (goInt (Nat.min 1 (n + 1 - i))) (W.setCells b (i * 2) vs) := fun W hWc hWf ty dc =>
  run_copy_cellsN W 48 48 ty 68 2 b (i * 2) (n + 1 - i) dc ⟨vb, 0, none⟩ 1 1 vs Try.underlying48 hsz (by rw [hvl, show Nat.min 1 (n + 1 - i) = 1 from Nat.min_eq_left (by omega)]; try omega)
   (fun j v hj => by
    rw [Addr.add_lit, hWc, hW1, World.cell?_setCells_out b _ _ _ _ (fun h _ => absurd h hne)]
    have := hvs j v hj
    simpa using this)
   (fun j hj => by rw [hWc]; exact hsp1 _ (by omega)) (fun j hj => by rw [hWf, hW1, World.frozen?_setCells]; exact hfz _) h1v
 have hfin : ((w.drew.setCells b ((i + 1) * 2) (cs.drop (i * 2))).setCells b (i * 2) vs).ownsRow base 68 2 (.slice (some ⟨b, 0, none⟩) (n + 1) c) (n + 1) (cs.take (i * 2) ++ vs ++ cs.drop (i * 2)) := by
  obtain ⟨cur1, g1, g2, g3⟩ := setCells_row (cs.drop (i * 2)) ((i + 1) * 2) w.drew cur (show w.drew.heap[b]? = _ from hh) (by omega)
  obtain ⟨cur2, g4, g5, g6⟩ := setCells_row vs (i * 2) _ cur1 g1 (by omega)
  have h := own_of_block (n := n + 1) (cap := c) (size := 2) hbase g4 hroom hcm (by omega)
  have hli := ins_list (cs := cs) (vs := vs) (k := i * 2) (s := 2) (t := (n + 1) * 2) (n := n * 2) (by omega) cur.toList htk hvl (by omega) (by rw [Array.length_toList]; omega)
  have e1 : i * 2 + 2 = (i + 1) * 2 := by omega
  (try rw [e1] at hli)
  rw [g6, g3, hli] at h
  exact h
 have HFIN := Aside0.mk hfin
 have HGR : Aside0 (w.grownBy ((w.drew.setCells b ((i + 1) * 2) (cs.drop (i * 2))).setCells b (i * 2) vs) (some b)) := ⟨by
  have h := World.grownBy.trans (grown_cells w.drew b ((i + 1) * 2) (cs.drop (i * 2))) (grown_cells _ b (i * 2) vs)
  exact ⟨h.os, h.tape, h.output, h.size, h.block⟩⟩
 have hw1 : IntKind.i64.wrap ((i : Int) + (1 : Int)) = (i : Int) + (1 : Int) := by rw [IntKind.wrap_i64]; omega
 have hb1 : (0 : Int) ≤ (i : Int) + (1 : Int) := by omega
 have hin : i ≤ n := by omega
 have htn : ((i : Int) + (1 : Int)).toNat = i + 1 := by omega
 have hb2 : ¬ (c = i + 1) := by omega
 have hb3 : (i : Int) ≤ (n : Int) + (1 : Int) := by omega
 have hb4 : ¬ (c = i) := by omega
 rw [← hW1] at hcp1
 have HW1 := Aside0.mk hW1
 clear hcs hlen htk hh hvb hcsz hsp hfz hvs hdl hsp1 hfin hvl h1v h1c hsz hW1
 go_enter Try.func95, Try.ntmps95
 go_wp2_with (simp only [hov])
 go_region_law (refine step_copy_runI rfl _ _ 48 48 rfl _ _ (by simp [Act.eval, Act.put]) (by simp [Act.eval, Act.put]) (hcp1 _ _ _) ?_)
 go_wp2_with (at_builtin; refine wpList_copy_runI _ rfl _ _ 48 48 rfl _ _ rfl rfl (hcp2 _ (fun _ => rfl) (fun _ => rfl) _ _) ?_)
 go_ret
 first | exact ⟨rfl, HFIN.out, HGR.out⟩ | exact ⟨rfl, by rw [HW1.out]; exact HFIN.out, by rw [HW1.out]; exact HGR.out⟩
set_option maxHeartbeats 4000000 in
set_option maxRecDepth 100000 in
theorem insA_end (v : Value) (n vb : Nat) (base : Nat) (cs vs : List Value) (w : World) (ho : w.ownsRow base 68 2 v n cs) (hvb : w.heap[vb]? = some (.cells vs.toArray 68 (0, 0))) (hvl : vs.length = 2) (h1v : ∀ v ∈ vs, v.oneCell' = true) (hn : n < 1000000000) (hbase : base ≤ w.heap.size) :
  Calls Try.prog 95 #[v, .int .i64 n, .slice (some ⟨vb, 0, none⟩) 1 1] w fun e w' =>
   ∃ v', e = .returned v' ∧ w'.ownsRow base 68 2 v' (n + 1) (cs ++ vs) ∧ w.grownBy w' v.ownBlock ∧ (v'.ownBlock = v.ownBlock ∨ v'.ownBlock = some w.heap.size) := by
 obtain ⟨A, c, rfl⟩ := own_slice ho
 have hle := own_le ho
 have hvs : ∀ j v, vs[j]? = some v → w.cell? ((⟨vb, 0, none⟩ : Addr).add j) = some v := fun j v h => by rw [add_plain, blk_cell hvb j]; simpa using h
 have HO := Aside0.mk ho
 have HVS := Aside0.mk hvs
 have HVL := Lib.hid hvl
 have H1V := Aside0.mk h1v
 obtain ⟨i0, hi0, hz0, hzs, hzb⟩ := info_parts info68
 have HI0 := Aside0.mk hi0
 have HZ0 := Aside0.mk hz0
 have HZS := Aside0.mk hzs
 have HZB := Aside0.mk hzb
 have hc1 : ¬ c = n ∨ n = c := by omega
 clear ho hvs hvl h1v hvb hi0 hz0 hzs hzb
 go_enter Try.func95, Try.ntmps95
 rcases hc1 with hc | rfl
 all_goals
  cases A with
  | none =>
   have h0 : n = 0 := by
    rcases HO.out.2 with ⟨h, h2⟩ | ⟨g, cap, cur, h, _⟩
    ·
     exact h2
    ·
     cases h
   subst h0
   go_wp2_with (at_builtin; refine wpList_append_own_at _ rfl _ _ 48 rfl base 68 i0 _ 2 32 Try.underlying48 HI0.out HZ0.out HZS.out HZB.out rfl (by decide) _ _ cs rfl HO.out ⟨vb, 0, none⟩ 1 1 vs rfl (by rw [HVL.out]) HVS.out H1V.out (by unfold maxLen; omega) (by omega) hbase ?_; intro v' w1 hown hg _ hat; have HOWN := Aside0.mk hown; have HG := Aside0.mk hg; have HAT := Aside0.mk hat; clear hown hg hat)
   go_ret
   exact ⟨_, rfl, HOWN.out, HG.out, HAT.out⟩
  | some ad =>
   go_wp2_with (at_builtin; refine wpList_append_own_at _ rfl _ _ 48 rfl base 68 i0 _ 2 32 Try.underlying48 HI0.out HZ0.out HZS.out HZB.out rfl (by decide) _ _ cs rfl HO.out ⟨vb, 0, none⟩ 1 1 vs rfl (by rw [HVL.out]) HVS.out H1V.out (by unfold maxLen; omega) (by omega) hbase ?_; intro v' w1 hown hg _ hat; have HOWN := Aside0.mk hown; have HG := Aside0.mk hg; have HAT := Aside0.mk hat; clear hown hg hat)
   go_ret
   exact ⟨_, rfl, HOWN.out, HG.out, HAT.out⟩
set_option maxHeartbeats 4000000 in
set_option maxRecDepth 100000 in
theorem insA_grow (b n c i vb : Nat) (base : Nat) (cs vs : List Value) (w : World) (ho : w.ownsRow base 68 2 (.slice (some ⟨b, 0, none⟩) n c) n cs) (hi : i < n) (hroom : c < n + 1) (hvb : w.heap[vb]? = some (.cells vs.toArray 68 (0, 0))) (hvl : vs.length = 2) (h1v : ∀ v ∈ vs, v.oneCell' = true) (h1c : ∀ v ∈ cs, v.oneCell' = true) (hn : n < 1000000000) (hbase : base ≤ w.heap.size) :
  Calls Try.prog 95 #[.slice (some ⟨b, 0, none⟩) n c, .int .i64 i, .slice (some ⟨vb, 0, none⟩) 1 1] w fun e w' =>
   ∃ v', e = .returned v' ∧ w'.ownsRow base 68 2 v' (n + 1) (cs.take (i * 2) ++ vs ++ cs.drop (i * 2)) ∧ w.grownBy w' none ∧ v'.ownBlock = some w.heap.size := by
 have hcs := ho.cells (g := b) rfl
 have hnc := own_le ho
 have hcl : cs.length = n * 2 := ho.1
 have hbw : b < w.heap.size := own_lt ho b (by simp [Value.ownBlock])
 have hvs : ∀ j v, vs[j]? = some v → w.cell? ⟨vb, j, none⟩ = some v := fun j v h => by rw [blk_cell hvb j]; simpa using h
 have hvw : vb < w.heap.size := blk_lt hvb
 obtain ⟨i0, hi0, hz0, hzs, hzb⟩ := info_parts info68
 have hz2 : ¬ ((i : Int) = (n : Int)) := by omega
 have hz3 : (c : Int) < (n : Int) + (1 : Int) := by omega
 have hsz : (Try.prog.info? 68).map (·.size) = some 2 := by rw [hi0]; simp [hzs]
 have hkk : (n : Int) + (1 : Int) - (i : Int) = ((n + 1 - i : Nat) : Int) := by omega
 have hik : i + (n + 1 - i) = n + 1 := by omega
 have hold : (Builtin.firstCells i0.size i (.slice (some ⟨b, 0, none⟩) i c)).run Try.prog w.drew = .ok (cs.take (i * 2)).toArray w.drew := by
  rw [hzs]
  exact run_firstCells_some w.drew 2 i ⟨b, 0, none⟩ i c (cs.take (i * 2)) (by rw [List.length_take]; omega) (fun j v hj => by
   rw [List.getElem?_take] at hj
   split at hj
   ·
    exact hcs j v hj
   ·
    cases hj)
 have hrz : ∀ ty, (Builtin.append_ #[48, 3] ty #[.slice (some ⟨b, 0, none⟩) i c, .int .i64 ((n : Int) + (1 : Int) - (i : Int))]).run Try.prog w =
   .ok (.slice (some ⟨w.heap.size, 0, none⟩) (n + 1) (grownCap w (n + 1) c 68)) (w.drew.alloc (.cells ((cs.take (i * 2)).toArray ++ Builtin.zeroCells (Value.agg #[.string ⟨#[]⟩, .string ⟨#[]⟩]).cells (n + 1 - i) ++ Builtin.zeroCells (Value.agg #[.string ⟨#[]⟩, .string ⟨#[]⟩]).cells (grownCap w (n + 1) c 68 - (n + 1))) 68)) := fun ty => by
  have h := Lib.run_append_grow_zeros w 48 3 ty 68 i0 _ .i64 .i64 Try.underlying48 Try.underlying3 hi0 hz0 (some ⟨b, 0, none⟩) i c (cs.take (i * 2)) hold (n + 1 - i) (by omega) (by omega) (by omega) (by omega) (by rw [hzb]; omega) (by rw [hzb, hik]; exact growslice_fits hroom (by omega))
  rw [hik] at h
  rw [hkk]
  exact h
 obtain ⟨G, hG⟩ : ∃ G, G = grownCap w (n + 1) c 68 := ⟨_, rfl⟩
 obtain ⟨ROW, hROW⟩ : ∃ ROW : Array Value, ROW = (cs.take (i * 2)).toArray ++ Builtin.zeroCells (Value.agg #[.string ⟨#[]⟩, .string ⟨#[]⟩]).cells (n + 1 - i) ++ Builtin.zeroCells (Value.agg #[.string ⟨#[]⟩, .string ⟨#[]⟩]).cells (G - (n + 1)) := ⟨_, rfl⟩
 rw [← hG] at hrz
 rw [← hROW] at hrz
 have hGn : n + 1 ≤ G := by rw [hG]; exact grownCap_ge w _ _ _
 have hGm : G ≤ maxLen := by rw [hG]; exact grownCap_le_maxLen w (n + 1) c 68 (by unfold maxLen; omega)
 have hG63 : G ≤ 9223372036854775807 := by unfold maxLen at hGm; omega
 have hRl : ROW.size = G * 2 := by
  rw [hROW]
  simp [Builtin.zeroCells, Value.cells]
  omega
 have hRt : ROW.toList.take (i * 2) = cs.take (i * 2) := by
  rw [hROW, Array.toList_append, Array.toList_append, List.append_assoc, List.take_append_of_le_length (by simp <;> omega), List.take_of_length_le (by simp <;> omega)]
 obtain ⟨W1, hW1⟩ : ∃ W1, W1 = w.drew.alloc (.cells ROW 68) := ⟨_, rfl⟩
 rw [← hW1] at hrz
 have hW1b : W1.heap[w.heap.size]? = some (.cells ROW 68 (0, 0)) := by rw [hW1]; exact World.alloc_heap_new w.drew _
 have hN : ∀ j, j < G * 2 → (W1.cell? ⟨w.heap.size, j, none⟩).isSome = true := fun j hj => by
  rw [blk_cell hW1b j, Array.getElem?_eq_getElem (by omega)]; rfl
 have hNf : ∀ j, W1.frozen? ⟨w.heap.size, j, none⟩ = false := fun j => blk_frozen hW1b j
 have hOb : ∀ j v, w.cell? ⟨b, j, none⟩ = some v → W1.cell? ⟨b, j, none⟩ = some v := fun j v h => by rw [hW1, World.cell?_alloc_past (w := w.drew) _ b j hbw]; exact h
 have hOv : ∀ j v, w.cell? ⟨vb, j, none⟩ = some v → W1.cell? ⟨vb, j, none⟩ = some v := fun j v h => by rw [hW1, World.cell?_alloc_past (w := w.drew) _ vb j hvw]; exact h
 have hcpA : ∀ (W : World), (∀ x, W.cell? x = W1.cell? x) → (∀ x, W.frozen? x = W1.frozen? x) → ∀ ty dc, (Builtin.copy_ #[48, 48] ty #[.slice (some ⟨w.heap.size, i * 2, none⟩) (n + 1 - i) dc, .slice (some ⟨vb, 0, none⟩) 1 1]).run Try.prog W = .ok (goInt (Nat.min 1 (n + 1 - i))) (W.setCells w.heap.size (i * 2) vs) := fun W hWc hWf ty dc =>
  run_copy_cellsN W 48 48 ty 68 2 w.heap.size (i * 2) (n + 1 - i) dc ⟨vb, 0, none⟩ 1 1 vs Try.underlying48 hsz (by rw [hvl, show Nat.min 1 (n + 1 - i) = 1 from Nat.min_eq_left (by omega)]; try omega)
   (fun j v hj => by rw [Addr.add_lit, hWc]; have := hOv _ v (hvs j v hj); simpa using this)
   (fun j hj => by rw [hWc]; exact hN _ (by omega)) (fun j hj => by rw [hWf]; exact hNf _) h1v
 have hGi : ¬ (G = i) := by omega
 have hGim : ¬ (G = i + 1) := by omega
 have hci : ¬ (c = i) := by omega
 have hbN : b ≠ w.heap.size := by omega
 have hdl : (cs.drop (i * 2)).length = (n - i) * 2 := by rw [List.length_drop, hcl]; omega
 have hcpB : ∀ (W : World), (∀ x, W.cell? x = (W1.setCells w.heap.size (i * 2) vs).cell? x) → (∀ x, W.frozen? x = (W1.setCells w.heap.size (i * 2) vs).frozen? x) → ∀ ty dc sc, (Builtin.copy_ #[48, 48] ty #[.slice (some ⟨w.heap.size, (i + 1) * 2, none⟩) (n - i) dc, .slice (some ⟨b, i * 2, none⟩) (n - i) sc]).run Try.prog W = .ok (goInt (Nat.min (n - i) (n - i))) (W.setCells w.heap.size ((i + 1) * 2) (cs.drop (i * 2))) := fun W hWc hWf ty dc sc =>
  run_copy_cellsN W 48 48 ty 68 2 w.heap.size ((i + 1) * 2) (n - i) dc ⟨b, i * 2, none⟩ (n - i) sc (cs.drop (i * 2)) Try.underlying48 hsz (by rw [hdl]; congr 1; exact (Nat.min_self _).symm)
   (fun j v hj => by
    rw [Addr.add_lit, hWc, World.cell?_setCells_out _ _ _ _ _ (fun h _ => absurd h hbN)]
    have := hcs (i * 2 + j) v (by rwa [List.getElem?_drop] at hj)
    rw [add_plain] at this
    exact hOb _ v this)
   (fun j hj => by rw [hWc]; exact isSome_setCells w.heap.size vs (i * 2) W1 (fun t ht => hN _ (by omega)) _ (hN _ (by omega)))
   (fun j hj => by rw [hWf, World.frozen?_setCells]; exact hNf _) (fun v hv => h1c v (List.mem_of_mem_drop hv))
 have hfin : ((W1.setCells w.heap.size (i * 2) vs).setCells w.heap.size ((i + 1) * 2) (cs.drop (i * 2))).ownsRow base 68 2 (.slice (some ⟨w.heap.size, 0, none⟩) (n + 1) G) (n + 1) (cs.take (i * 2) ++ vs ++ cs.drop (i * 2)) := by
  obtain ⟨cur1, g1, g2, g3⟩ := setCells_row vs (i * 2) W1 ROW hW1b (by omega)
  obtain ⟨cur2, g4, g5, g6⟩ := setCells_row (cs.drop (i * 2)) ((i + 1) * 2) _ cur1 g1 (by omega)
  have h := own_of_block (n := n + 1) (cap := G) (size := 2) (e := 68) hbase g4 hGn hGm (by omega)
  have hlen1 : (cs.take (i * 2)).length = i * 2 := by rw [List.length_take]; omega
  rw [g6, g3, hRt] at h
  rw [show (cs.take (i * 2) ++ vs ++ ROW.toList.drop (i * 2 + vs.length)).take ((i + 1) * 2) = cs.take (i * 2) ++ vs from by
   rw [List.take_append_of_le_length (by rw [List.length_append]; omega), List.take_of_length_le (by rw [List.length_append]; omega)]] at h
  rw [List.take_append_of_le_length (by simp only [List.length_append, hlen1, hdl]; omega), List.take_of_length_le (by simp only [List.length_append, hlen1, hdl]; omega)] at h
  exact h
 have HFIN := Aside0.mk hfin
 have HGR : Aside0 (w.grownBy ((W1.setCells w.heap.size (i * 2) vs).setCells w.heap.size ((i + 1) * 2) (cs.drop (i * 2))) none) := ⟨by
  have h0 : w.grownBy W1 none := by
   rw [hW1]
   have h := World.grownBy_alloc w.drew (.cells ROW 68) none
   exact ⟨h.os, h.tape, h.output, h.size, h.block⟩
  have h1 := World.grownBy.trans (grown_cells W1 w.heap.size (i * 2) vs) (grown_cells _ w.heap.size ((i + 1) * 2) (cs.drop (i * 2)))
  exact ⟨h1.os.trans h0.os, h1.tape.trans h0.tape, h1.output.trans h0.output, Nat.le_trans h0.size h1.size, fun k hk hne => (h1.block k (Nat.lt_of_lt_of_le hk h0.size) (fun he => by injection he with he; omega)).trans (h0.block k hk hne)⟩⟩
 have HW1 := Aside0.mk hW1
 subst hW1
 have hE1 : ∀ x, ((w.alloc (.cells ROW 68)).drew).cell? x = (w.drew.alloc (.cells ROW 68)).cell? x := fun x => rfl
 have hE2 : ∀ x, ((w.alloc (.cells ROW 68)).drew).frozen? x = (w.drew.alloc (.cells ROW 68)).frozen? x := fun x => rfl
 have hF1 : ∀ x, (((w.alloc (.cells ROW 68)).drew.setCells w.heap.size (i * 2) vs).drew).cell? x = ((w.drew.alloc (.cells ROW 68)).setCells w.heap.size (i * 2) vs).cell? x := fun x => rfl
 have hF2 : ∀ x, (((w.alloc (.cells ROW 68)).drew.setCells w.heap.size (i * 2) vs).drew).frozen? x = ((w.drew.alloc (.cells ROW 68)).setCells w.heap.size (i * 2) vs).frozen? x := fun x => rfl
 have hw1 : IntKind.i64.wrap ((i : Int) + (1 : Int)) = (i : Int) + (1 : Int) := by rw [IntKind.wrap_i64]; omega
 have hb1 : (0 : Int) ≤ (i : Int) + (1 : Int) := by omega
 have hin : i ≤ n := by omega
 have htn : ((i : Int) + (1 : Int)).toNat = i + 1 := by omega
 have hb3 : (i : Int) ≤ (n : Int) := by omega
 clear hkk hik hold hROW hG hRl hRt hcs hcl hvs hvl h1v h1c hsz hi0 hz0 hzs hzb hfin hW1b hN hNf hOb hOv hdl hGm hvb ho
 go_enter Try.func95, Try.ntmps95
 go_wp2_with (first
  | (at_builtin; refine Lib.wpList_append_run _ rfl _ _ _ _ rfl _ _ rfl rfl _ _ (hrz _) ?_)
  | (at_builtin; refine wpList_copy_runI _ rfl _ _ 48 48 rfl _ _ rfl rfl (hcpA _ hE1 hE2 _ _) ?_)
  | (at_builtin; refine wpList_copy_runI _ rfl _ _ 48 48 rfl _ _ rfl rfl (hcpB _ (fun _ => rfl) (fun _ => rfl) _ _ _) ?_))
 go_region_law (refine step_copy_runI rfl _ _ 48 48 rfl (.slice (some ⟨w.heap.size, (i + 1) * 2, none⟩) (n - i) (G - (i + 1))) (.slice (some ⟨b, i * 2, none⟩) (n - i) (c - i)) (by simp [Act.eval, Act.put]) (by simp [Act.eval, Act.put]) (hcpB _ hF1 hF2 3 (G - (i + 1)) (c - i)) ?_)
 go_wp2
 go_ret
 refine ⟨_, rfl, ?_, ?_, rfl⟩
 ·
  exact (drew_setCells w.heap.size (cs.drop (i * 2)) ((i + 1) * 2) ((w.drew.alloc (.cells ROW 68)).setCells w.heap.size (i * 2) vs)).symm ▸ own_drew HFIN.out
 ·
  exact (drew_setCells w.heap.size (cs.drop (i * 2)) ((i + 1) * 2) ((w.drew.alloc (.cells ROW 68)).setCells w.heap.size (i * 2) vs)).symm ▸ grown_drew HGR.out
end Go.Proofs.Ytleofbidijbahaa.D
