import Derived.Test.YtloocmeckpoflaaGreatYD0
import Derived.Test.YtloocmeckpoflaaGreatYD16
import Derived.Test.YtloocmeckpoflaaGreatYD17
namespace Go.Proofs.YtloocmeckpoflaaGreat.D
open Go.RowKit Go.Proofs.YtloocmeckpoflaaGreatW.PrintWords Go.Proofs.YtloocmeckpoflaaGreatW.PrintLast Go.Proofs.YtloocmeckpoflaaGreatW.PrintMore
attribute [local go_sem] max2_int min2_int max_two min_two max_three min_three max_four min_four   -- for this text's walks alone
set_option linter.unusedVariables false
set_option linter.unusedSimpArgs false
def Pr (W : World) (base p : Nat) (fv : Value) (s : ByteArray) : Prop :=
 base ≤ p ∧ ∃ av v, W.heap[p]? = some (.cells #[av, v, fv] 55 (0, 0)) ∧ (av = .pointer none ∨ av = .pointer (some ⟨p, 0, none⟩)) ∧ W.ownsRow base 5 1 v s.size (Lib.strCells s) ∧ v.ownBlock ≠ some p
theorem own_typed {W : World} {base n : Nat} {v : Value} {xs : List Value} (h : W.ownsRow base 5 1 v n xs) : ∀ k, v.ownBlock = some k → ∃ cs : Array Value, W.heap[k]? = some (.cells cs 5 (0, 0)) := by
 rcases h.2 with ⟨hv, _⟩ | ⟨g, cap, cur, hv, hbg, hg, _⟩
 ·
  subst hv
  intro k hk
  cases hk
 ·
  subst hv
  intro k hk
  have e : g = k := by simpa [Value.ownBlock] using hk
  exact ⟨cur, e ▸ hg⟩
theorem RepKept.grown {W W1 : World} {row : Option Nat} (h : W.grownBy W1 row) (ht : ∀ k, row = some k → ∃ cs : Array Value, W.heap[k]? = some (.cells cs 5 (0, 0))) : RepKept W W1 := fun b cs t fr hb _ hu => (h.block b (Array.getElem?_eq_some_iff.1 hb).1 (fun e => by
 obtain ⟨cs', h'⟩ := ht b e.symm
 rw [hb] at h'
 cases h'
 exact hu rfl rfl)).trans hb
theorem RepKept.setp {W : World} {p : Nat} {cs : Array Value} (hp : W.heap[p]? = some (.cells cs 55 (0, 0))) (i : Nat) (u : Value) : RepKept W (W.setCell ⟨p, i, none⟩ u) := RepKept.but ((But.refl p W).set i u) hp
set_option maxRecDepth 100000 in
theorem cc_is (W : World) (p : Nat) (av v fv : Value) (hp : W.heap[p]? = some (.cells #[av, v, fv] 55 (0, 0))) (ha : av = .pointer none ∨ av = .pointer (some ⟨p, 0, none⟩)) :
  Calls Tryz.prog 40 #[.pointer (some ⟨p, 0, none⟩)] W fun e w' => e = .returned (.tuple #[]) ∧ w'.heap[p]? = some (.cells #[.pointer (some ⟨p, 0, none⟩), v, fv] 55 (0, 0)) ∧ (w' = W ∨ w' = W.setCell ⟨p, 0, none⟩ (.pointer (some ⟨p, 0, none⟩))) := by
 obtain ⟨j, hj, hjs⟩ := Option.map_eq_some_iff.1 (show (Tryz.prog.info? 53).map (·.size) = some 2 by kernel_rfl)
 have c0 := blk_cell hp 0
 have f0 := blk_frozen hp 0
 have hsh : W.shape? p = some (55, 3) := by simp [World.shape?, hp]
 rcases ha with rfl | rfl
 ·
  have hto := Lib.run_to_unsafe (P := Tryz.prog) W ⟨p, 0, none⟩ Tryz.underlying50 Tryz.underlying98 hj (by rw [hjs]; decide) hsh (show 0 < 3 by omega)
  have hfrom := Lib.run_from_unsafe (P := Tryz.prog) W ⟨p, 0, none⟩ Tryz.underlying98 Tryz.underlying50 hj hsh (by kernel_rfl)
  have hne : (callFunc 50 #[.pointer (some ⟨p, 0, none⟩)]).run Tryz.prog W = .ok (.value (.pointer (some ⟨p, 0, none⟩))) W := by
   rw [run_callFunc_extern Tryz.func50 (by kernel_rfl) (by kernel_rfl) (by kernel_rfl) (e := Extern.AbiNoEscape.same) (by kernel_rfl), Lib.run_noEscape]
   rfl
  have hput := blk_put hp 0 (.pointer (some ⟨p, 0, none⟩)) rfl
  have HP := Aside0.mk hput
  clear hput hp
  go_enter Tryz.func40, Tryz.ntmps40
  go_wp2
  go_end0
  exact ⟨rfl, HP.out, Or.inr rfl⟩
 ·
  have hnq := Lib.run_neq_ptr_same (P := Tryz.prog) W ⟨p, 0, none⟩ Tryz.underlying50 hj
  have HP := Aside0.mk hp
  clear hp
  go_enter Tryz.func40, Tryz.ntmps40
  go_wp2
  go_end0
  exact ⟨rfl, HP.out, Or.inl rfl⟩
theorem cc_grown {W w1 : World} {p : Nat} {u : Value} (h : w1 = W ∨ w1 = W.setCell ⟨p, 0, none⟩ u) : W.grownBy w1 (some p) := by
 rcases h with h | h
 ·
  subst h
  exact World.grownBy.refl _ _
 ·
  subst h
  exact ⟨rfl, rfl, rfl, by simp [World.setCell], fun k _ hk => Below.heap_setCell _ _ _ _ (fun e => hk (by simp [e]))⟩
theorem cc_kept {W w1 : World} {p : Nat} {u : Value} {cs : Array Value} (hp : W.heap[p]? = some (.cells cs 55 (0, 0))) (h : w1 = W ∨ w1 = W.setCell ⟨p, 0, none⟩ u) : RepKept W w1 := by
 rcases h with h | h
 ·
  subst h
  exact fun b cs t fr hb _ _ => hb
 ·
  subst h
  exact RepKept.setp hp 0 u
theorem strCells_append (a b : ByteArray) : Lib.strCells (a ++ b) = Lib.strCells a ++ Lib.strCells b := by
 rw [Lib.strCells, Lib.strCells, Lib.strCells, ByteArray.data_append, Array.toList_append, List.map_append]
set_option maxRecDepth 100000 in
set_option maxHeartbeats 4000000 in
theorem write_is (W : World) (base p : Nat) (fv : Value) (s t : ByteArray) (h : Pr W base p fv s) (hB : base ≤ W.heap.size) (hl : s.size + t.size ≤ 140737488355328) :
  Calls Tryz.prog 28 #[.pointer (some ⟨p, 0, none⟩), .string t] W fun e w' => e = .returned (.tuple #[.int .i64 t.size, .nilIface]) ∧ Pr w' base p fv (s ++ t) ∧ RepKept W w' ∧ Below base W w' := by
 obtain ⟨hbp, av, v, hp, ha, hown, hne⟩ := h
 obtain ⟨i0, hi0, hz0, hs0, hb0⟩ := info_parts infoByte
 have HCC := Aside0.mk (cc_is W p av v fv hp ha)
 have HP := Aside0.mk hp
 have HOWN := Aside0.mk hown
 clear hp ha hown
 go_enter Tryz.func28, Tryz.ntmps28
 go_wp2_with (first | (go_at_call 40; refine HCC.out.mono ?_; rintro e w1 ⟨rfl, hp1, hw1⟩; have c1 := blk_cell hp1 1; have HP1 := Aside0.mk hp1; have HW1 := Aside0.mk hw1; have hk1 := cc_grown hw1; have HOWN1 := Aside0.mk (HOWN.out.kept hk1 (Or.inr hne)); have HK1 := Aside0.mk hk1; clear hp1 hw1 hk1) | ((with_reducible refine gate_builtin (b := .append) (xs := #[.tmp 12, .tmp 13]) rfl ?_); at_builtin; refine Lib.wpList_append_own_string (P := Tryz.prog) _ rfl (.tmp 12) (.tmp 13) 51 9 rfl base 5 i0 Tryz.underlying51 Tryz.underlying9 hi0 hz0 hs0 hb0 v s.size (Lib.strCells s) rfl HOWN1.out t rfl ?c3 ?c4 ?c5 ?_))
 case c3 => unfold maxLen; omega
 case c4 => exact hl
 case c5 => have := HK1.out.size; omega
 intro v2 w2 hown2 hg2 _
 have hp2 : w2.heap[p]? = some (.cells #[.pointer (some ⟨p, 0, none⟩), v, fv] 55 (0, 0)) := (hg2.block p (blk_lt HP1.out) (fun e => hne e.symm)).trans HP1.out
 have d1 := blk_cell hp2 1
 have f1 := blk_frozen hp2 1
 have hne2 : v2.ownBlock ≠ some p := fun e => by
  obtain ⟨cs, hcs⟩ := own_typed hown2 p e
  rw [hcs] at hp2
  cases hp2
 obtain ⟨ao, n', cap, rfl⟩ : ∃ ao n' cap, v2 = .slice ao n' cap := by
  rcases hown2.2 with ⟨hv, _⟩ | ⟨g, cap, cur, hv, _⟩
  ·
   exact ⟨_, _, _, hv⟩
  ·
   exact ⟨_, _, _, hv⟩
 have hp3 := blk_put hp2 1 (.slice ao n' cap) rfl
 have hk3 : w2.grownBy (w2.setCell ⟨p, 1, none⟩ (.slice ao n' cap)) (some p) := ⟨rfl, rfl, rfl, by simp [World.setCell], fun k _ hk => Below.heap_setCell _ _ _ _ (fun e => hk (by simp [e]))⟩
 have hrk : RepKept W (w2.setCell ⟨p, 1, none⟩ (.slice ao n' cap)) := by
  refine ((cc_kept HP.out HW1.out).trans (RepKept.grown hg2 (own_typed HOWN1.out))).trans (RepKept.setp hp2 1 _)
 have hbb : Below base W (w2.setCell ⟨p, 1, none⟩ (.slice ao n' cap)) := by
  have hb1 : Below base W w1 := (Below.refl base W).grown HK1.out hB (fun k hk => by cases hk; exact hbp)
  exact (hb1.grown hg2 (by have := HK1.out.size; omega) (fun k hk => (HOWN1.out.lt k hk).1)).setCell (p := ⟨p, 1, none⟩) hbp _
 have hown3 := hown2.kept hk3 (Or.inr hne2)
 have H3 : Aside0 (Pr (w2.setCell ⟨p, 1, none⟩ (.slice ao n' cap)) base p fv (s ++ t)) := ⟨hbp, _, _, hp3, Or.inr rfl, by rw [strCells_append, ByteArray.size_append]; exact hown3, hne2⟩
 have HRK := Aside0.mk hrk
 have HBB := Aside0.mk hbb
 clear hown2 hg2 hp2 hp3 hk3 hrk hbb hown3
 go_wp2
 go_ret2
 exact ⟨rfl, H3.out, HRK.out, HBB.out⟩
theorem size_foldl : ∀ (l : List ByteArray) (s : ByteArray), s.size ≤ (l.foldl (· ++ ·) s).size
 | [], s => Nat.le_refl _
 | a :: l, s => by
  have h := size_foldl l (s ++ a)
  rw [ByteArray.size_append] at h
  rw [List.foldl_cons]
  omega
theorem size_foldl_take (l : List ByteArray) (s : ByteArray) (k : Nat) : ((l.take k).foldl (· ++ ·) s).size ≤ (l.foldl (· ++ ·) s).size := by
 conv => rhs; rw [← List.take_append_drop k l, List.foldl_append]
 exact size_foldl _ _
theorem foldl_take_one {l : List ByteArray} {k : Nat} (h : k < l.length) (s : ByteArray) : (l.take (k + 1)).foldl (· ++ ·) s = (l.take k).foldl (· ++ ·) s ++ rdOf ByteArray.empty l (k : Int) := by
 rw [List.take_add_one, List.foldl_append, List.getElem?_eq_getElem h, rdOf, Int.toNat_natCast, List.getD_eq_getElem?_getD, List.getElem?_eq_getElem h]
 rfl
set_option maxRecDepth 100000 in
set_option maxHeartbeats 4000000 in
theorem put_is (W : World) (base p b c : Nat) (fv : Value) (s : ByteArray) (ss : List ByteArray) (h : Pr W base p fv s) (hB : base ≤ W.heap.size) (hR : StrRow W b ss) (hn : ss.length ≤ 1000) (hl : (ss.foldl (· ++ ·) s).size ≤ 140737488355328) :
  Calls Tryz.prog 38 #[.pointer (some ⟨p, 0, none⟩), .slice (some ⟨b, 0, none⟩) ss.length c] W fun e w' => e = .returned (.tuple #[]) ∧ Pr w' base p fv (ss.foldl (· ++ ·) s) ∧ RepKept W w' ∧ Below base W w' := by
 have HP := Aside0.mk h
 have HR := Aside0.mk hR
 clear h hR
 obtain ⟨n, hn1⟩ : ∃ n, ss.length = n := ⟨_, rfl⟩
 rw [hn1] at hn
 rw [hn1]
 go_enter Tryz.func38, Tryz.ntmps38
 go_wp2
 go_loopw [8] (fun i wr => ∃ k : Nat, k ≤ n ∧ i = .int .i64 k ∧ Aside0 (Pr wr base p fv ((ss.take k).foldl (· ++ ·) s)) ∧ Aside0 (RepKept W wr) ∧ Aside0 (Below base W wr)) (fun i _ => n - (intOf i).toNat)
 case atStart => exact ⟨0, by omega, rfl, HP, ⟨fun b cs t fr hb _ _ => hb⟩, ⟨Below.refl _ _⟩⟩
 case round =>
  obtain ⟨k, hk, rfl, HPk, HKk, HBk⟩ := hrel
  by_cases hkn : k < n
  ·
   obtain ⟨cs, hr1, hr2⟩ := HR.out.kept HKk.out
   have hc : wr.cell? ⟨b, k, none⟩ = some (.string (rdOf ByteArray.empty ss (k : Int))) := (blk_cell hr1 k).trans (hr2 k (by omega))
   have hf := foldl_take_one (l := ss) (k := k) (by omega) s
   have hsz := size_foldl_take ss s (k + 1)
   obtain ⟨x, hx⟩ : ∃ x, rdOf ByteArray.empty ss (k : Int) = x := ⟨_, rfl⟩
   rw [hx] at hc hf
   obtain ⟨y, hy⟩ : ∃ y, (ss.take k).foldl (· ++ ·) s = y := ⟨_, rfl⟩
   have HYk : Aside0 (Pr wr base p fv y) := ⟨by rw [← hy]; exact HPk.out⟩
   rw [hf, hy, ByteArray.size_append] at hsz
   rw [hy] at hf
   have HW := Aside0.mk (write_is wr base p fv y x HYk.out (by have := HBk.out.size; omega) (by omega))
   have HF := Aside0.mk hf
   clear hr1 hr2 hf hy hsz hx
   go_wp2_with (go_at_call 28; refine HW.out.mono ?_; rintro e w1 ⟨rfl, h1, h2, h3⟩; have H1 := Aside0.mk h1; have H2 := Aside0.mk h2; have H3 := Aside0.mk h3; clear h1 h2 h3)
   exact ⟨⟨k + 1, by omega, by go_num, ⟨by rw [HF.out]; exact H1.out⟩, ⟨HKk.out.trans H2.out⟩, ⟨HBk.out.trans H3.out⟩⟩, by simp [intOf]; omega⟩
  ·
   obtain rfl : k = n := by omega
   go_wp2
   go_end0
   have e : ss.take k = ss := List.take_of_length_le (by omega)
   exact ⟨rfl, by have h := HPk.out; rw [e] at h; exact h, HKk.out, HBk.out⟩
end Go.Proofs.YtloocmeckpoflaaGreat.D
