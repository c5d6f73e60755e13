import Derived.Test.YtloocmeckpoflaaGreatYD0
import Derived.Test.YtloocmeckpoflaaGreatYD17
import Derived.Test.YtloocmeckpoflaaGreatYD19
namespace Go.Proofs.YtloocmeckpoflaaGreat.D
open Go.RowKit Go.Proofs.YtloocmeckpoflaaGreatW.PrintWords Go.Proofs.YtloocmeckpoflaaGreatW.PrintLast Go.Proofs.YtloocmeckpoflaaGreatW.PrintMore
attribute [local go_sem] max2_int min2_int max_two min_two max_three min_three max_four min_four   -- for this text's walks alone
set_option linter.unusedVariables false
set_option linter.unusedSimpArgs false
structure BuKept (W W' : World) : Prop where
 size : W.heap.size ≤ W'.heap.size
 same : ∀ (b : Nat) (o : Obj), W.heap[b]? = some o → (∀ cs fr, o ≠ Obj.cells cs 53 fr) → (∀ cs, o ≠ Obj.cells cs 5 (0, 0)) → W'.heap[b]? = some o
theorem BuKept.trans {A B C : World} (h : BuKept A B) (k : BuKept B C) : BuKept A C := ⟨Nat.le_trans h.size k.size, fun b o hb h1 h2 => k.same b o (h.same b o hb h1 h2) h1 h2⟩
theorem BuKept.of {W W' : World} (h : Below W.heap.size W W') : BuKept W W' := ⟨h.size, fun b o hb _ _ => (h.block b (Array.getElem?_eq_some_iff.1 hb).1).trans hb⟩
theorem BuKept.grown {W W1 : World} {row : Option Nat} (h : W.grownBy W1 row) (ht : ∀ k, row = some k → ∃ cs : Array Value, W.heap[k]? = some (.cells cs 5 (0, 0))) : BuKept W W1 := ⟨h.size, fun b o hb _ hu => (h.block b (Array.getElem?_eq_some_iff.1 hb).1 (fun e => by
 obtain ⟨cs', h'⟩ := ht b e.symm
 rw [hb] at h'
 cases h'
 exact hu _ rfl)).trans hb⟩
theorem BuKept.setp {W : World} {p : Nat} {cs : Array Value} (hp : W.heap[p]? = some (.cells cs 53 (0, 0))) (i : Nat) (u : Value) : BuKept W (W.setCell ⟨p, i, none⟩ u) := ⟨by simp [World.setCell], fun b o hb h1 _ => (Below.heap_setCell _ _ _ _ (fun e => by
 have e2 : b = p := e
 rw [e2, hp] at hb
 cases hb
 exact h1 _ _ rfl)).trans hb⟩
theorem bcc_kept {W w1 : World} {p : Nat} {u : Value} {cs : Array Value} (hp : W.heap[p]? = some (.cells cs 53 (0, 0))) (h : w1 = W ∨ w1 = W.setCell ⟨p, 0, none⟩ u) : BuKept W w1 := by
 rcases h with h | h
 ·
  subst h
  exact ⟨Nat.le_refl _, fun b o hb _ _ => hb⟩
 ·
  subst h
  exact BuKept.setp hp 0 u
theorem freeze_others {W : World} {g : Nat} {cs : Array Value} {ty : TypeId} {fr : Nat × Nat} (hg : W.heap[g]? = some (.cells cs ty fr)) (m : Nat) : KeepsOthers W (W.drew.freeze ⟨g, 0, none⟩ m) := by
 refine (show KeepsOthers W W.drew from ⟨Nat.le_refl _, fun _ _ h _ => h⟩).trans ?_
 unfold World.freeze
 split
 ·
  exact KeepsOthers.refl _
 ·
  refine ⟨by simp, fun k o hk ho => ?_⟩
  simp only [Array.getElem?_modify]
  rw [if_neg (fun e => by
   have e2 : g = k := e
   have hk' : W.heap[k]? = some o := hk
   rw [← e2, hg] at hk'
   cases hk'
   cases ho)]
  exact hk
def Bu (W : World) (base p : Nat) (s : ByteArray) : Prop :=
 base ≤ p ∧ ∃ av v, W.heap[p]? = some (.cells #[av, v] 53 (0, 0)) ∧ (av = .pointer none ∨ av = .pointer (some ⟨p, 0, none⟩)) ∧ W.ownsRow base 5 1 v s.size (Lib.strCells s) ∧ v.ownBlock ≠ some p
set_option maxRecDepth 100000 in
theorem bcc_is (W : World) (p : Nat) (av v : Value) (hp : W.heap[p]? = some (.cells #[av, v] 53 (0, 0))) (ha : av = .pointer none ∨ av = .pointer (some ⟨p, 0, none⟩)) :
  Calls Tryz.prog 40 #[.pointer (some ⟨p, 0, none⟩)] W fun e w' => e = .returned (.tuple #[]) ∧ w'.heap[p]? = some (.cells #[.pointer (some ⟨p, 0, none⟩), v] 53 (0, 0)) ∧ (w' = W ∨ w' = W.setCell ⟨p, 0, none⟩ (.pointer (some ⟨p, 0, none⟩))) := by
 obtain ⟨j, hj, hjs⟩ := Option.map_eq_some_iff.1 (show (Tryz.prog.info? 53).map (·.size) = some 2 by kernel_rfl)
 have c0 := blk_cell hp 0
 have f0 := blk_frozen hp 0
 have hsh : W.shape? p = some (53, 2) := by simp [World.shape?, hp]
 rcases ha with rfl | rfl
 ·
  have hto := Lib.run_to_unsafe (P := Tryz.prog) W ⟨p, 0, none⟩ Tryz.underlying50 Tryz.underlying98 hj (by rw [hjs]; decide) hsh (show 0 < 2 by omega)
  have hfrom := Lib.run_from_unsafe (P := Tryz.prog) W ⟨p, 0, none⟩ Tryz.underlying98 Tryz.underlying50 hj hsh (by kernel_rfl)
  have hne : (callFunc 50 #[.pointer (some ⟨p, 0, none⟩)]).run Tryz.prog W = .ok (.value (.pointer (some ⟨p, 0, none⟩))) W := by
   rw [run_callFunc_extern Tryz.func50 (by kernel_rfl) (by kernel_rfl) (by kernel_rfl) (e := Extern.AbiNoEscape.same) (by kernel_rfl), Lib.run_noEscape]
   rfl
  have hput := blk_put hp 0 (.pointer (some ⟨p, 0, none⟩)) rfl
  have HP := Aside0.mk hput
  clear hput hp
  go_enter Tryz.func40, Tryz.ntmps40
  go_wp2
  go_end0
  exact ⟨rfl, HP.out, Or.inr rfl⟩
 ·
  have hnq := Lib.run_neq_ptr_same (P := Tryz.prog) W ⟨p, 0, none⟩ Tryz.underlying50 hj
  have HP := Aside0.mk hp
  clear hp
  go_enter Tryz.func40, Tryz.ntmps40
  go_wp2
  go_end0
  exact ⟨rfl, HP.out, Or.inl rfl⟩
set_option maxRecDepth 100000 in
set_option maxHeartbeats 4000000 in
theorem bwrite_is (W : World) (base p : Nat) (s t : ByteArray) (h : Bu W base p s) (hB : base ≤ W.heap.size) (hl : s.size + t.size ≤ 140737488355328) :
  Calls Tryz.prog 28 #[.pointer (some ⟨p, 0, none⟩), .string t] W fun e w' => e = .returned (.tuple #[.int .i64 t.size, .nilIface]) ∧ Bu w' base p (s ++ t) ∧ BuKept W w' ∧ Below base W w' := by
 obtain ⟨hbp, av, v, hp, ha, hown, hne⟩ := h
 obtain ⟨i0, hi0, hz0, hs0, hb0⟩ := info_parts infoByte
 have HCC := Aside0.mk (bcc_is W p av v hp ha)
 have HP := Aside0.mk hp
 have HOWN := Aside0.mk hown
 clear hp ha hown
 go_enter Tryz.func28, Tryz.ntmps28
 go_wp2_with (first | (go_at_call 40; refine HCC.out.mono ?_; rintro e w1 ⟨rfl, hp1, hw1⟩; have c1 := blk_cell hp1 1; have HP1 := Aside0.mk hp1; have HW1 := Aside0.mk hw1; have hk1 := cc_grown hw1; have HOWN1 := Aside0.mk (HOWN.out.kept hk1 (Or.inr hne)); have HK1 := Aside0.mk hk1; clear hp1 hw1 hk1) | ((with_reducible refine gate_builtin (b := .append) (xs := #[.tmp 12, .tmp 13]) rfl ?_); at_builtin; refine Lib.wpList_append_own_string (P := Tryz.prog) _ rfl (.tmp 12) (.tmp 13) 51 9 rfl base 5 i0 Tryz.underlying51 Tryz.underlying9 hi0 hz0 hs0 hb0 v s.size (Lib.strCells s) rfl HOWN1.out t rfl ?c3 ?c4 ?c5 ?_))
 case c3 => unfold maxLen; omega
 case c4 => exact hl
 case c5 => have := HK1.out.size; omega
 intro v2 w2 hown2 hg2 _
 have hp2 : w2.heap[p]? = some (.cells #[.pointer (some ⟨p, 0, none⟩), v] 53 (0, 0)) := (hg2.block p (blk_lt HP1.out) (fun e => hne e.symm)).trans HP1.out
 have d1 := blk_cell hp2 1
 have f1 := blk_frozen hp2 1
 have hne2 : v2.ownBlock ≠ some p := fun e => by
  obtain ⟨cs, hcs⟩ := own_typed hown2 p e
  rw [hcs] at hp2
  cases hp2
 obtain ⟨ao, n', cap, rfl⟩ : ∃ ao n' cap, v2 = .slice ao n' cap := by
  rcases hown2.2 with ⟨hv, _⟩ | ⟨g, cap, cur, hv, _⟩
  ·
   exact ⟨_, _, _, hv⟩
  ·
   exact ⟨_, _, _, hv⟩
 have hp3 := blk_put hp2 1 (.slice ao n' cap) rfl
 have hk3 : w2.grownBy (w2.setCell ⟨p, 1, none⟩ (.slice ao n' cap)) (some p) := ⟨rfl, rfl, rfl, by simp [World.setCell], fun k _ hk => Below.heap_setCell _ _ _ _ (fun e => hk (by simp [e]))⟩
 have hrk : BuKept W (w2.setCell ⟨p, 1, none⟩ (.slice ao n' cap)) := by
  refine ((bcc_kept HP.out HW1.out).trans (BuKept.grown hg2 (own_typed HOWN1.out))).trans (BuKept.setp hp2 1 _)
 have hbb : Below base W (w2.setCell ⟨p, 1, none⟩ (.slice ao n' cap)) := by
  have hb1 : Below base W w1 := (Below.refl base W).grown HK1.out hB (fun k hk => by cases hk; exact hbp)
  exact (hb1.grown hg2 (by have := HK1.out.size; omega) (fun k hk => (HOWN1.out.lt k hk).1)).setCell (p := ⟨p, 1, none⟩) hbp _
 have hown3 := hown2.kept hk3 (Or.inr hne2)
 have H3 : Aside0 (Bu (w2.setCell ⟨p, 1, none⟩ (.slice ao n' cap)) base p (s ++ t)) := ⟨hbp, _, _, hp3, Or.inr rfl, by rw [strCells_append, ByteArray.size_append]; exact hown3, hne2⟩
 have HRK := Aside0.mk hrk
 have HBB := Aside0.mk hbb
 clear hown2 hg2 hp2 hp3 hk3 hrk hbb hown3
 go_wp2
 go_ret2
 exact ⟨rfl, H3.out, HRK.out, HBB.out⟩
set_option maxRecDepth 100000 in
set_option maxHeartbeats 4000000 in
theorem bstr_is (W : World) (base p : Nat) (s : ByteArray) (h : Bu W base p s) (h0 : s.size ≠ 0) :
  Calls Tryz.prog 24 #[.pointer (some ⟨p, 0, none⟩)] W fun e w' => e = .returned (.string s) ∧ Below base W w' ∧ KeepsOthers W w' := by
 obtain ⟨hbp, av, v, hp, ha, hown, hne⟩ := h
 obtain ⟨g, cap, cur, rfl, hbg, hg, hnc, hcm, hcs, htake⟩ : ∃ g cap cur, v = .slice (some ⟨g, 0, none⟩) s.size cap ∧ base ≤ g ∧ W.heap[g]? = some (.cells cur 5 (0, 0)) ∧ s.size ≤ cap ∧ cap ≤ maxLen ∧ cur.size = cap * 1 ∧ cur.toList.take (s.size * 1) = Lib.strCells s := by
  rcases hown.2 with ⟨_, hz⟩ | ⟨g, cap, cur, hv, r⟩
  ·
   exact absurd hz h0
  ·
   exact ⟨g, cap, cur, hv, r⟩
 have hsl : s.data.toList.length = s.size := Array.length_toList
 have hSD : (Builtin.unsafeSliceData_ #[51] 92 #[.slice (some ⟨g, 0, none⟩) s.size cap]).run Tryz.prog W.drew = .ok (.pointer (some ⟨g, 0, none⟩)) W.drew :=
  Lib.run_unsafeSliceData_row _ _ _ _ _ _ (by omega)
 have hUS : (Builtin.unsafeString_ #[92, 3] 9 #[.pointer (some ⟨g, 0, none⟩), .int .i64 s.size]).run Tryz.prog W.drew = .ok (.string s) (W.drew.freeze ⟨g, 0, none⟩ s.size) := by
  have h := Lib.run_unsafeString_row (P := Tryz.prog) W.drew 92 3 9 5 Tryz.underlying92 (by kernel_rfl) g cur.size (by have hg' : W.drew.heap[g]? = some (.cells cur 5 (0, 0)) := hg; simp [World.shape?, hg']) s.data.toList (by
   intro e
   rw [e] at hsl
   exact h0 hsl.symm) (by omega) (by unfold maxLen at hcm; omega) (by
   intro j x hx
   exact hown.cells (g := g) rfl j (.int .u8 x.toNat) (by simp [Lib.strCells, hx]))
  rw [hsl, Array.toArray_toList] at h
  exact h
 have hko : KeepsOthers W (W.drew.freeze ⟨g, 0, none⟩ s.size) := freeze_others hg _
 have c1 := blk_cell hp 1
 have c1d : W.drew.cell? ⟨p, 1, none⟩ = some (.slice (some ⟨g, 0, none⟩) s.size cap) := c1
 clear hown htake hcs hcm hnc hg hp ha hne
 go_enter Tryz.func24, Tryz.ntmps24
 go_wp2
 go_region
 all_goals (go_wp2; go_ret; exact ⟨rfl, Lib.below_freeze (Below.drew (Below.refl base W)) (p := ⟨g, 0, none⟩) hbg _, hko⟩)
end Go.Proofs.YtloocmeckpoflaaGreat.D
