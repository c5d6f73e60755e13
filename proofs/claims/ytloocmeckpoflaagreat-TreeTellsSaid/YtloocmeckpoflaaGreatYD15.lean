import Derived.Test.YtloocmeckpoflaaGreatYD0
namespace Go.Proofs.YtloocmeckpoflaaGreat.D
open Go.RowKit Go.Proofs.YtloocmeckpoflaaGreatW.PrintWords Go.Proofs.YtloocmeckpoflaaGreatW.PrintLast Go.Proofs.YtloocmeckpoflaaGreatW.PrintMore
attribute [local go_sem] max2_int min2_int max_two min_two max_three min_three max_four min_four   -- for this text's walks alone
set_option linter.unusedVariables false
set_option linter.unusedSimpArgs false
def rep8 : List ByteArray := [⟨#[38]⟩, ⟨#[38, 97, 109, 112, 59]⟩, ⟨#[60]⟩, ⟨#[38, 108, 116, 59]⟩, ⟨#[62]⟩, ⟨#[38, 103, 116, 59]⟩, ⟨#[34]⟩, ⟨#[38, 113, 117, 111, 116, 59]⟩]
theorem infoStr : (Tryz.prog.info? 9).map (fun i => (i.zero, i.size, i.bytes)) = some (some (.string ⟨#[]⟩), 1, 16) := by kernel_rfl
theorem blk_newr {W : World} {o : Obj} {k : Nat} (h : W.heap.size = k) : (W.alloc o).heap[k]? = some o := by rw [← h]; exact World.alloc_heap_new W o
set_option maxRecDepth 100000 in
set_option maxHeartbeats 2000000 in
theorem newrep_is (A : Option Addr) (c : Nat) (w : World) (hC : Kd.C Kd.string w A 8 rep8) :
  Calls Tryz.prog 21 #[.slice A 8 c] w fun e w' => ∃ (g : Nat) (OA : Option Addr) (oc : Nat), e = .returned (.pointer (some ⟨g, 0, none⟩)) ∧ w.heap.size ≤ g ∧ w'.heap[g]? = some (.cells #[.int .u32 0, .int .i32 0, .int .u32 0, .nilIface, .slice OA 8 oc] 87 (0, 0)) ∧ Kd.R Kd.string 9 w' w.heap.size (fun k => k ≠ g) (.slice OA 8 oc) rep8 ∧ Below w.heap.size w w' := by
 have HC := Aside0.mk hC
 clear hC
 go_enter Tryz.func21, Tryz.ntmps21
 go_wp2_with ((with_reducible refine gate_builtin (b := .append) (xs := #[.const (.slice none 0 0), .tmp 8]) rfl ?_); at_builtin; refine Kd.R_append_rows Kd.string (w0 := w) w.heap.size rfl (.const (.slice none 0 0)) (.tmp 8) 71 9 (.string ⟨#[]⟩) 16 rfl Tryz.underlying71 infoStr rfl (by decide) (by omega) (.slice none 0 0) [] rep8 _ _ _ (fun _ => True) (fun _ => False) rfl rfl ?aO ?aR (fun _ _ h => h) (fun _ h => h.elim) ?aF ?aB ?aS ?aL ?_; (case aR => exact HC.out); (case aB => exact Below.refl _ _); (case aF => exact (fun _ _ => trivial)); (case aO => exact Kd.R_nil _ _ _ _ _); (case aS => exact Nat.le_refl _); (case aL => decide); intro v1 w1 ho hb hg hat; obtain ⟨OA, oc, rfl⟩ := Kd.R_slice ho; have HO := Aside0.mk ho; have HB := Aside0.mk hb; clear ho hb hg hat)
 go_ret
 have hal := below_alloc (Below.refl w1.heap.size w1) (.cells #[.int .u32 0, .int .i32 0, .int .u32 0, .nilIface, .slice OA 8 oc] 87)
 exact ⟨w1.heap.size, OA, oc, rfl, HB.out.size, blk_newr rfl, Kd.R_mono (Kd.R_bound (Kd.R_below HO.out hal)) (fun k hk e => by
  obtain ⟨_, _, _, q, hq, cells, hc⟩ := hk
  rw [e, blk_newr rfl] at hc
  have h9 : q = 9 := by
   rcases List.mem_cons.1 hq with h | h
   ·
    exact h
   ·
    cases h
  rw [h9] at hc
  cases hc), HB.out.trans (hal.mono HB.out.size)⟩
def Tab (W : World) (tb : Nat) (f : Nat → Value) (tv : Value) : Prop :=
 ∃ cs : Array Value, W.heap[tb]? = some (.cells cs 115 (0, 0)) ∧ cs.size = 257 ∧ (∀ i, i < 256 → cs[i]? = some (f i)) ∧ cs[256]? = some tv
theorem zc_size : (Tryz.zeroCells115).size = 257 := by kernel_rfl
theorem zc_zero : (Tryz.zeroCells115).toList = List.replicate 257 (Value.slice none 0 0) := by kernel_rfl
theorem zc_info : (Tryz.prog.info? 115).map (·.size) = some 257 := by kernel_rfl
theorem tab_new (W : World) (v : Value) (hv : v.oneCell' = true) : ∃ W1, (storeCells ⟨W.heap.size, 0, none⟩ ((Tryz.zeroCells115).toList.set 256 v)).run Tryz.prog (W.alloc (.cells (Tryz.zeroCells115) 115)) = .ok () W1 ∧ Tab W1 W.heap.size (fun _ => .slice none 0 0) v ∧ Below W.heap.size W W1 ∧ W1.heap.size = W.heap.size + 1 := by
 obtain ⟨c', hc'⟩ : ∃ c' : Array Value, c' = ((Tryz.zeroCells115).toList.set 256 v).toArray := ⟨_, rfl⟩
 have hsz : c'.size = 257 := by rw [hc']; simp [zc_size]
 have hl : c'.toList = List.set (List.replicate 257 (Value.slice none 0 0)) 256 v := by rw [hc', zc_zero]
 have hall : c'.all (·.oneCell') = true := by
  rw [← Array.all_toList, hl, List.all_eq_true]
  intro x hx
  rcases List.mem_or_eq_of_mem_set hx with h | h
  ·
   rw [List.eq_of_mem_replicate h]; rfl
  ·
   rw [h]; exact hv
 have hr := run_storeCells_new (P := Tryz.prog) W 115 (Tryz.zeroCells115) c' (by rw [zc_info, hsz]) (by rw [zc_size, hsz]) hall
 refine ⟨W.alloc (.cells c' 115), ?_, ⟨c', blk_newr rfl, hsz, fun i hi => ?_, ?_⟩, below_alloc (Below.refl _ _) _, by simp⟩
 ·
  rw [← hr, hc']
 ·
  rw [← Array.getElem?_toList, hl, List.getElem?_set_ne (by omega), List.getElem?_replicate, if_pos (by omega)]
 ·
  rw [← Array.getElem?_toList, hl, List.getElem?_set_self (by rw [List.length_replicate]; omega)]
def escL (o : Nat) : Option (List Int) := if o = 38 then some [38, 97, 109, 112, 59] else if o = 60 then some [38, 108, 116, 59] else if o = 62 then some [38, 103, 116, 59] else if o = 34 then some [38, 113, 117, 111, 116, 59] else none
def EscAt (W : World) (o : Nat) (v : Value) : Prop := ∃ (b cap : Nat) (l : List Int) (cs : Array Value) (fr : Nat × Nat), escL o = some l ∧ v = .slice (some ⟨b, 0, none⟩) l.length cap ∧ l.length ≤ cap ∧ fr ≠ (0, 0) ∧ W.heap[b]? = some (.cells cs 5 fr) ∧ ∀ i, i < l.length → cs[i]? = some (.int .u8 (l.getD i 0))
def TabOk (W : World) (f : Nat → Value) (done : List Nat) : Prop := ∀ o, o < 256 → (o ∈ done → EscAt W o (f o)) ∧ (o ∉ done → f o = .slice none 0 0)
def ByKept (W W1 : World) : Prop := ∀ (b : Nat) (cs : Array Value) (fr : Nat × Nat), W.heap[b]? = some (Obj.cells cs 5 fr) → W1.heap[b]? = some (Obj.cells cs 5 fr)
theorem ByKept.trans {A B C : World} (h : ByKept A B) (k : ByKept B C) : ByKept A C := fun b cs fr hb => k b cs fr (h b cs fr hb)
theorem ByKept.below {W W1 : World} (hb : Below W.heap.size W W1) : ByKept W W1 := fun b cs fr h => (hb.block b (Array.getElem?_eq_some_iff.1 h).1).trans h
theorem ByKept.grown {W W1 : World} {row : Option Nat} (hg : W.grownBy W1 row) (hr : ∀ k, row = some k → ∃ cs, W.heap[k]? = some (.cells cs 9 (0, 0))) : ByKept W W1 := fun b cs fr h => (hg.block b (Array.getElem?_eq_some_iff.1 h).1 (fun e => by
 obtain ⟨cs', h'⟩ := hr b e.symm
 rw [h] at h'
 cases h')).trans h
theorem ByKept.set {W : World} {tb i : Nat} {f : Nat → Value} {tv : Value} (h : Tab W tb f tv) (v : Value) : ByKept W (W.setCell ⟨tb, i, none⟩ v) := fun b cs fr hb => (Below.heap_setCell W ⟨tb, i, none⟩ v b (fun e => by
 obtain ⟨cs', h', _⟩ := h
 have e : b = tb := e
 rw [e, h'] at hb
 cases hb)).trans hb
theorem EscAt.step {W W1 : World} {o : Nat} {v : Value} (h : EscAt W o v) (hk : ByKept W W1) : EscAt W1 o v := by
 obtain ⟨b, cap, l, cs, fr, h1, h2, h3, hf, h4, h5⟩ := h
 exact ⟨b, cap, l, cs, fr, h1, h2, h3, hf, hk _ _ _ h4, h5⟩
theorem TabOk.step {W W1 : World} {f : Nat → Value} {done : List Nat} (h : TabOk W f done) (hk : ByKept W W1) : TabOk W1 f done := fun o ho => ⟨fun hd => ((h o ho).1 hd).step hk, (h o ho).2⟩
theorem TabOk.put {W : World} {f : Nat → Value} {done : List Nat} (h : TabOk W f done) {o : Nat} {v : Value} (hv : EscAt W o v) : TabOk W (fun k => if k = o then v else f k) (done ++ [o]) := fun k hk => by
 by_cases e : k = o
 ·
  subst e
  dsimp only
  rw [if_pos rfl]
  exact ⟨fun _ => hv, fun hn => absurd (by simp) hn⟩
 ·
  dsimp only
  rw [if_neg e]
  exact ⟨fun hm => (h k hk).1 (by simpa [e] using hm), fun hn => (h k hk).2 (by simpa [e] using hn)⟩
theorem one_string {W : World} {N o : Nat} (h : W.heap[N]? = some (.cells #[.int .u8 (o : Int)] 5 (0, 0))) : (convert 51 9 (.slice (some ⟨N, 0, none⟩) 1 1)).run Tryz.prog W = .ok (.string (strOfNums [(o : Int)])) W := by
 have hr : ReadsInt W .u8 (some ⟨N, 0, none⟩) 1 [(o : Int)] := ⟨rfl, by omega, fun _ => ⟨_, rfl, fun i hi => by
  obtain rfl : i = 0 := by omega
  rw [add_plain]
  exact blk_cell h 0⟩⟩
 exact Kd.C_string Tryz.underlying51 Tryz.underlying5 Tryz.underlying9 (Kd.C_of_reads hr)
theorem Tab.cell {W : World} {tb : Nat} {f : Nat → Value} {tv : Value} (h : Tab W tb f tv) {i : Nat} (hi : i < 256) : W.cell? ⟨tb, i, none⟩ = some (f i) := by
 obtain ⟨cs, h1, h2, h3, h4⟩ := h
 exact (blk_cell h1 i).trans (h3 i hi)
theorem Tab.top {W : World} {tb : Nat} {f : Nat → Value} {tv : Value} (h : Tab W tb f tv) : W.cell? ⟨tb, 256, none⟩ = some tv := by
 obtain ⟨cs, h1, h2, h3, h4⟩ := h
 exact (blk_cell h1 256).trans h4
theorem Tab.lt {W : World} {tb : Nat} {f : Nat → Value} {tv : Value} (h : Tab W tb f tv) : tb < W.heap.size := by
 obtain ⟨cs, h1, h2⟩ := h
 exact blk_lt h1
theorem Tab.frozen {W : World} {tb : Nat} {f : Nat → Value} {tv : Value} (h : Tab W tb f tv) (i : Nat) : W.frozen? ⟨tb, i, none⟩ = false := by
 obtain ⟨cs, h1, h2, h3, h4⟩ := h
 exact blk_frozen h1 i
theorem Tab.below {W W1 : World} {tb : Nat} {f : Nat → Value} {tv : Value} (h : Tab W tb f tv) (hb : Below W.heap.size W W1) : Tab W1 tb f tv := by
 obtain ⟨cs, h1, h2⟩ := h
 exact ⟨cs, blk_below h1 hb, h2⟩
theorem Tab.grown {W W1 : World} {tb : Nat} {f : Nat → Value} {tv : Value} (h : Tab W tb f tv) {row : Option Nat} (hg : W.grownBy W1 row) (hne : some tb ≠ row) : Tab W1 tb f tv := by
 obtain ⟨cs, h1, h2⟩ := h
 exact ⟨cs, (hg.block _ (blk_lt h1) hne).trans h1, h2⟩
theorem Tab.setTop {W : World} {tb : Nat} {f : Nat → Value} {tv : Value} (h : Tab W tb f tv) (v : Value) : Tab (W.setCell ⟨tb, 256, none⟩ v) tb f v := by
 obtain ⟨cs, h1, h2, h3, h4⟩ := h
 refine ⟨cs.setIfInBounds 256 v, blk_put h1 256 v rfl, by simp [h2], fun i hi => ?_, ?_⟩
 ·
  rw [Array.getElem?_setIfInBounds_ne (by omega)]; exact h3 i hi
 ·
  rw [Array.getElem?_setIfInBounds_self_of_lt (by omega)]
theorem Tab.setAt {W : World} {tb : Nat} {f : Nat → Value} {tv : Value} (h : Tab W tb f tv) {o : Nat} (ho : o < 256) (v : Value) : Tab (W.setCell ⟨tb, o, none⟩ v) tb (fun k => if k = o then v else f k) tv := by
 obtain ⟨cs, h1, h2, h3, h4⟩ := h
 refine ⟨cs.setIfInBounds o v, blk_put h1 o v rfl, by simp [h2], fun i hi => ?_, ?_⟩
 ·
  by_cases h : i = o
  ·
   subst h
   rw [Array.getElem?_setIfInBounds_self_of_lt (by omega)]
   dsimp only
   rw [if_pos rfl]
  ·
   rw [Array.getElem?_setIfInBounds_ne (fun e => h e.symm)]
   dsimp only
   rw [if_neg h]
   exact h3 i hi
 ·
  rw [Array.getElem?_setIfInBounds_ne (by omega)]; exact h4
theorem rep8_cell {w : World} {ob : Nat} (h : Kd.C Kd.string w (some ⟨ob, 0, none⟩) 8 rep8) (i : Nat) (hi : i < 8) : w.cell? ⟨ob, i, none⟩ = some (.string (rdOf ByteArray.empty rep8 (i : Int))) := by
 obtain ⟨ad, h1, h2⟩ := Kd.at_string h (i : Int) (by omega) (by omega)
 cases h1
 rw [Int.toNat_natCast, add_plain] at h2
 exact h2
theorem escAt_new (We : World) (o : Nat) (b : ByteArray) (l : List Int) (hl : escL o = some l) (hb : bytesOf b = l) (hs : b.size ≤ 9223372036854775807) : EscAt (Lib.bytesWorld We 5 b) o (.slice (some ⟨We.heap.size, 0, none⟩) b.size (grownCap We b.size 0 5)) := by
 have hn : l.length = b.size := by rw [← hb]; exact bytesOf_length b
 have hblk := Lib.bytesWorld_at_new We 5 b
 refine ⟨We.heap.size, grownCap We b.size 0 5, l, _, _, hl, by rw [hn], by rw [hn]; exact grownCap_ge _ _ _ _, fun e => absurd (congrArg Prod.snd e) (Nat.succ_ne_zero _), hblk, fun i hi => ?_⟩
 obtain ⟨_, _, hc⟩ := bytes_reads We 5 b hs
 obtain ⟨ad, e, hc⟩ := hc (by omega)
 cases e
 have h := hc i (by omega)
 rw [add_plain, hb] at h
 simpa [World.cell?, hblk] using h
set_option maxRecDepth 100000 in
set_option maxHeartbeats 40000000 in
theorem build_is (g : Nat) (d l s : Int) (ob : Nat) (oc : Nat) (w : World) (hg : w.heap[g]? = some (.cells #[.int .u32 d, .int .i32 l, .int .u32 s, .nilIface, .slice (some ⟨ob, 0, none⟩) 8 oc] 87 (0, 0))) (hC : Kd.C Kd.string w (some ⟨ob, 0, none⟩) 8 rep8) :
  Calls Tryz.prog 49 #[.pointer (some ⟨g, 0, none⟩)] w fun e w' => ∃ (tb : Nat) (f : Nat → Value) (TA : Option Addr) (tc : Nat), e = .returned (.iface 116 (.pointer (some ⟨tb, 0, none⟩))) ∧ w.heap.size ≤ tb ∧ Tab w' tb f (.slice TA 4 tc) ∧ TabOk w' f [34, 62, 60, 38] ∧ Kd.R Kd.string 9 w' w.heap.size (fun k => k ≠ tb) (.slice TA 4 tc) [⟨#[34]⟩, ⟨#[62]⟩, ⟨#[60]⟩, ⟨#[38]⟩] ∧ Below w.heap.size w w' := by
 have y4 : w.cell? ⟨g, 4, none⟩ = some (.slice (some ⟨ob, 0, none⟩) 8 oc) := blk_cell hg 4
 have hcell : ∀ i : Nat, i < 8 → w.cell? ⟨ob, i, none⟩ = some (.string (rdOf ByteArray.empty rep8 (i : Int))) := fun i hi => rep8_cell hC i hi
 have e0 : w.cell? ⟨ob, 0, none⟩ = some (.string ⟨#[38]⟩) := hcell 0 (by omega)
 have e1 : w.cell? ⟨ob, 1, none⟩ = some (.string ⟨#[38, 97, 109, 112, 59]⟩) := hcell 1 (by omega)
 have e2 : w.cell? ⟨ob, 2, none⟩ = some (.string ⟨#[60]⟩) := hcell 2 (by omega)
 have e3 : w.cell? ⟨ob, 3, none⟩ = some (.string ⟨#[38, 108, 116, 59]⟩) := hcell 3 (by omega)
 have e4 : w.cell? ⟨ob, 4, none⟩ = some (.string ⟨#[62]⟩) := hcell 4 (by omega)
 have e5 : w.cell? ⟨ob, 5, none⟩ = some (.string ⟨#[38, 103, 116, 59]⟩) := hcell 5 (by omega)
 have e6 : w.cell? ⟨ob, 6, none⟩ = some (.string ⟨#[34]⟩) := hcell 6 (by omega)
 have e7 : w.cell? ⟨ob, 7, none⟩ = some (.string ⟨#[38, 113, 117, 111, 116, 59]⟩) := hcell 7 (by omega)
 clear hcell
 have HG := Aside0.mk hg
 have HC := Aside0.mk hC
 clear hg hC
 go_enter Tryz.func49, Tryz.ntmps49
 go_wp2_with fail
 go_loopw [5, 4] (fun i b wr => ∃ j : Nat, j ≤ 4 ∧ i = .int .i64 (2 * j) ∧ b = .bool (decide (j = 0)) ∧ w = wr) (fun i b _ => 8 - (intOf i).toNat)
 case atStart => exact ⟨0, by omega, rfl, rfl, rfl⟩
 case round =>
  obtain ⟨j, hj, rfl, rfl, rfl⟩ := hrel
  have hjj : j = 0 ∨ j = 1 ∨ j = 2 ∨ j = 3 ∨ j = 4 := by omega
  rcases hjj with rfl | rfl | rfl | rfl | rfl
  ·
   go_wp2_with fail
   exact ⟨⟨1, by omega, by go_num, by first | rfl | trivial, by first | rfl | trivial⟩, by simp [intOf]⟩
  ·
   go_wp2_with fail
   exact ⟨⟨2, by omega, by go_num, by first | rfl | trivial, by first | rfl | trivial⟩, by simp [intOf]⟩
  ·
   go_wp2_with fail
   exact ⟨⟨3, by omega, by go_num, by first | rfl | trivial, by first | rfl | trivial⟩, by simp [intOf]⟩
  ·
   go_wp2_with fail
   exact ⟨⟨4, by omega, by go_num, by first | rfl | trivial, by first | rfl | trivial⟩, by simp [intOf]⟩
  ·
   simp only [show (2 * ((4 : Nat) : Int)) = 8 from rfl, show decide ((4 : Nat) = 0) = false from rfl]
   obtain ⟨i0, hi0, hz0, hs0, hb0⟩ := info_parts infoStr
   have hmk := run_make (P := Tryz.prog) w 71 9 i0 (.string ⟨#[]⟩) Tryz.underlying71 hi0 hz0 .i64 .i64 0 4 (by omega) (by omega) (by rw [hb0]; decide) (by omega)
   rw [hs0] at hmk
   obtain ⟨W2, hW2⟩ : ∃ W, w.alloc (.cells (madeCells (Value.string ⟨#[]⟩).cells ((4 : Int).toNat * 1)) 9) = W := ⟨_, rfl⟩
   have how := World.ownsRow_made w (base := w.heap.size) (e := 9) (size := 1) (madeCells (Value.string ⟨#[]⟩).cells ((4 : Int).toNat * 1)) 4 (Nat.le_refl _) (by unfold maxLen; omega) (by rw [size_madeCells]; rfl)
   have hal := below_alloc (Below.refl w.heap.size w) (.cells (madeCells (Value.string ⟨#[]⟩).cells ((4 : Int).toNat * 1)) 9)
   rw [hW2] at hmk how hal
   clear hi0 hz0 hs0 hb0
   obtain ⟨tb, htb⟩ : ∃ b, W2.heap.size = b := ⟨_, rfl⟩
   obtain ⟨N2, hN2⟩ : ∃ b, w.heap.size = b := ⟨_, rfl⟩
   obtain ⟨W3, hst, htab, hb3, hz3⟩ := tab_new W2 (.slice (some ⟨w.heap.size, 0, none⟩) 0 4) rfl
   rw [hN2] at hst htab hmk how
   rw [htb] at hst htab
   have hz2 : W2.heap.size = N2 + 1 := by rw [← hW2, ← hN2]; simp
   have hR3 : Kd.R Kd.string 9 W3 w.heap.size (fun k => k ≠ tb) (.slice (some ⟨N2, 0, none⟩) 0 4) [] := by
    refine Kd.R_below (w := W2) ⟨fun k hk => ?_, [], by rw [hN2]; exact how, Reps.none _ _⟩ hb3
    have : k = N2 := by simpa [Value.ownBlock] using hk.symm
    omega
   have hbw := hal.trans (hb3.mono hal.size)
   have HS3 : Aside0 (∃ (f : Nat → Value) (TA : Option Addr) (tc : Nat), Tab W3 tb f (.slice TA ([] : List ByteArray).length tc) ∧ TabOk W3 f [] ∧ Kd.R Kd.string 9 W3 w.heap.size (fun k => k ≠ tb) (.slice TA ([] : List ByteArray).length tc) [] ∧ Below w.heap.size w W3) :=
    ⟨fun _ => .slice none 0 0, some ⟨N2, 0, none⟩, 4, htab, fun o ho => ⟨fun h => (by cases h), fun _ => rfl⟩, hR3, hbw⟩
   have hwn : w.heap.size = N2 := hN2
   have HTB : Aside0 (w.heap.size ≤ tb) := ⟨by omega⟩
   clear hbw hR3 htab how
   go_wp2_with fail
   clear hmk hW2 htb hN2 hal hb3 hz3 hz2 hst
   go_loopw [12] (fun i wr => ∃ j : Nat, j ≤ 4 ∧ i = .int .i64 (6 - 2 * j) ∧ Aside0 (∃ (f : Nat → Value) (TA : Option Addr) (tc : Nat), Tab wr tb f (.slice TA (([⟨#[34]⟩, ⟨#[62]⟩, ⟨#[60]⟩, ⟨#[38]⟩] : List ByteArray).take j).length tc) ∧ TabOk wr f (([34, 62, 60, 38] : List Nat).take j) ∧ Kd.R Kd.string 9 wr w.heap.size (fun k => k ≠ tb) (.slice TA (([⟨#[34]⟩, ⟨#[62]⟩, ⟨#[60]⟩, ⟨#[38]⟩] : List ByteArray).take j).length tc) (([⟨#[34]⟩, ⟨#[62]⟩, ⟨#[60]⟩, ⟨#[38]⟩] : List ByteArray).take j) ∧ Below w.heap.size w wr)) (fun i _ => (intOf i + 2).toNat)
   case atStart => exact ⟨0, by omega, rfl, HS3⟩
   case round =>
    obtain ⟨j, hj, rfl, HS⟩ := hrel
    have hjj : j = 0 ∨ j = 1 ∨ j = 2 ∨ j = 3 ∨ j = 4 := by omega
    rcases hjj with rfl | rfl | rfl | rfl | rfl
    ·
     obtain ⟨f, TA, tc, hT, hK, hR, hB⟩ := HS.out
     have c0 := pw_cell_below hB e6
     have c1 := pw_cell_below hB e7
     have t0 := hT.cell (i := 34) (by omega)
     rw [(hK 34 (by omega)).2 (by decide)] at t0
     have t1 : wr.cell? ⟨tb, 256, none⟩ = some (.slice TA 0 tc) := hT.top
     have hnil := fun W : World => Lib.run_eql_slice_nil (P := Tryz.prog) W 51 5 none 0 0 0 0 Tryz.underlying51
     obtain ⟨Wa, hWa⟩ : ∃ W, wr.alloc (.cells #[.int .u8 34] 5) = W := ⟨_, rfl⟩
     obtain ⟨Na, hNa⟩ : ∃ N, wr.heap.size = N := ⟨_, rfl⟩
     have hala := below_alloc (Below.refl wr.heap.size wr) (.cells #[.int .u8 34] 5)
     rw [hWa] at hala
     have hna : Wa.heap[Na]? = some (.cells #[.int .u8 34] 5 (0, 0)) := by rw [← hWa, ← hNa]; exact blk_newr rfl
     have hcs := one_string hna (o := 34)
     have hTa := hT.below hala
     have hKa := hK.step (ByKept.below hala)
     have hRa := Kd.R_below hR hala
     have hBa := hB.trans (hala.mono hB.size)
     have HTA := Aside0.mk hTa
     have HKA := Aside0.mk hKa
     have HRA := Aside0.mk hRa
     have HBA := Aside0.mk hBa
     clear hT hK hR hB hTa hKa hRa hBa hala hna
     have hix : ((⟨#[34]⟩ : ByteArray)[0]).toNat = 34 := rfl
     go_wp2_with ((with_reducible refine gate_builtin (b := .append) (xs := #[.tmp 119, .tmp 123]) rfl ?_); at_builtin; refine Kd.R_append Kd.string (w0 := w) (W := Wa) w.heap.size rfl (.tmp 119) (.tmp 123) 71 9 (.string ⟨#[]⟩) 16 rfl Tryz.underlying71 infoStr rfl (by decide) (by omega) (.slice TA 0 tc) (([⟨#[34]⟩, ⟨#[62]⟩, ⟨#[60]⟩, ⟨#[38]⟩] : List ByteArray).take 0) (⟨#[34]⟩ : ByteArray) [.string (strOfNums [34])] (fun k => k ≠ tb) (fun _ => False) rfl rfl ?aM (fun _ h => h.elim) ?aF ?aO ?aB ?aS ?aL ?_)
     case aM => exact rfl
     case aF =>
      intro k hk e
      have := HTA.out.lt
      omega
     case aO => exact HRA.out
     case aB => exact HBA.out
     case aS => exact HBA.out.size
     case aL => decide
     intro v1 w1 ho hb hg hat
     obtain ⟨TA1, tc1, rfl⟩ := Kd.R_slice ho
     have hT1 := HTA.out.grown hg (Kd.R_away HRA.out (g := tb) (fun k hk => hk))
     have hK1 := HKA.out.step (ByKept.grown hg (Kd.R_typed HRA.out))
     have f256 := hT1.frozen 256
     have c256 := hT1.top
     obtain ⟨We, hWe⟩ : ∃ W, w1.setCell ⟨tb, 256, none⟩ (.slice TA1 1 tc1) = W := ⟨_, rfl⟩
     have hTe := hT1.setTop (.slice TA1 1 tc1)
     have hKe := hK1.step (ByKept.set hT1 (i := 256) (.slice TA1 1 tc1))
     have hRe := Kd.R_far ho (p := ⟨tb, 256, none⟩) (fun k hk => hk) (.slice TA1 1 tc1)
     have hBe := hb.setCell (p := ⟨tb, 256, none⟩) (by have := HTB.out; show _ ≤ tb; omega) (.slice TA1 1 tc1)
     rw [hWe] at hTe hKe hRe hBe
     have hcv := print_bytes (P := Tryz.prog) 9 51 5 Tryz.underlying9 Tryz.underlying51 Tryz.underlying5 (⟨#[38, 113, 117, 111, 116, 59]⟩ : ByteArray) We
     have hbw := bytes_below (Below.refl We.heap.size We) (Nat.le_refl _) 5 (⟨#[38, 113, 117, 111, 116, 59]⟩ : ByteArray)
     have hesc := escAt_new We 34 (⟨#[38, 113, 117, 111, 116, 59]⟩ : ByteArray) [38, 113, 117, 111, 116, 59] rfl rfl (by decide)
     obtain ⟨Wf, hWf⟩ : ∃ W, Lib.bytesWorld We 5 (⟨#[38, 113, 117, 111, 116, 59]⟩ : ByteArray) = W := ⟨_, rfl⟩
     obtain ⟨Ne, hNe⟩ : ∃ N, We.heap.size = N := ⟨_, rfl⟩
     obtain ⟨gc, hgc⟩ : ∃ N, grownCap We (⟨#[38, 113, 117, 111, 116, 59]⟩ : ByteArray).size 0 5 = N := ⟨_, rfl⟩
     rw [hWf] at hcv hbw hesc
     have hTf := hTe.below hbw
     have hKf := hKe.step (ByKept.below hbw)
     have hRf := Kd.R_below hRe hbw
     have hBf := hBe.trans (hbw.mono (by have := hBe.size; omega))
     rw [hNe] at hcv hesc
     rw [hgc] at hcv hesc
     have fo := hTf.frozen 34
     have co := hTf.cell (i := 34) (by omega)
     have HTF := Aside0.mk hTf
     have HKF := Aside0.mk hKf
     have HRF : Aside0 (Kd.R Kd.string 9 Wf w.heap.size (fun k => k ≠ tb) (.slice TA1 (([⟨#[34]⟩, ⟨#[62]⟩, ⟨#[60]⟩, ⟨#[38]⟩] : List ByteArray).take 1).length tc1) (([⟨#[34]⟩, ⟨#[62]⟩, ⟨#[60]⟩, ⟨#[38]⟩] : List ByteArray).take 1)) := ⟨by rw [hwn]; exact hRf⟩
     have HBF := Aside0.mk hBf
     have HESC := Aside0.mk hesc
     clear ho hb hg hat hT1 hK1 hTe hKe hRe hBe hTf hKf hRf hBf hesc hbw
     go_wp2_with fail
     refine ⟨⟨1, by omega, by go_num, ⟨⟨_, TA1, tc1, HTF.out.setAt (o := 34) (by omega) _, (HKF.out.put HESC.out).step (ByKept.set HTF.out (i := 34) _), Kd.R_far HRF.out (p := ⟨tb, 34, none⟩) (fun k hk => hk) _, ?_⟩⟩⟩, by simp [intOf]⟩
     rw [hwn]
     exact HBF.out.setCell (p := ⟨tb, 34, none⟩) (by have := HTB.out; show _ ≤ tb; omega) _
    ·
     obtain ⟨f, TA, tc, hT, hK, hR, hB⟩ := HS.out
     have c0 := pw_cell_below hB e4
     have c1 := pw_cell_below hB e5
     have t0 := hT.cell (i := 62) (by omega)
     rw [(hK 62 (by omega)).2 (by decide)] at t0
     have t1 : wr.cell? ⟨tb, 256, none⟩ = some (.slice TA 1 tc) := hT.top
     have hnil := fun W : World => Lib.run_eql_slice_nil (P := Tryz.prog) W 51 5 none 0 0 0 0 Tryz.underlying51
     obtain ⟨Wa, hWa⟩ : ∃ W, wr.alloc (.cells #[.int .u8 62] 5) = W := ⟨_, rfl⟩
     obtain ⟨Na, hNa⟩ : ∃ N, wr.heap.size = N := ⟨_, rfl⟩
     have hala := below_alloc (Below.refl wr.heap.size wr) (.cells #[.int .u8 62] 5)
     rw [hWa] at hala
     have hna : Wa.heap[Na]? = some (.cells #[.int .u8 62] 5 (0, 0)) := by rw [← hWa, ← hNa]; exact blk_newr rfl
     have hcs := one_string hna (o := 62)
     have hTa := hT.below hala
     have hKa := hK.step (ByKept.below hala)
     have hRa := Kd.R_below hR hala
     have hBa := hB.trans (hala.mono hB.size)
     have HTA := Aside0.mk hTa
     have HKA := Aside0.mk hKa
     have HRA := Aside0.mk hRa
     have HBA := Aside0.mk hBa
     clear hT hK hR hB hTa hKa hRa hBa hala hna
     have hix : ((⟨#[62]⟩ : ByteArray)[0]).toNat = 62 := rfl
     go_wp2_with ((with_reducible refine gate_builtin (b := .append) (xs := #[.tmp 119, .tmp 123]) rfl ?_); at_builtin; refine Kd.R_append Kd.string (w0 := w) (W := Wa) w.heap.size rfl (.tmp 119) (.tmp 123) 71 9 (.string ⟨#[]⟩) 16 rfl Tryz.underlying71 infoStr rfl (by decide) (by omega) (.slice TA 1 tc) (([⟨#[34]⟩, ⟨#[62]⟩, ⟨#[60]⟩, ⟨#[38]⟩] : List ByteArray).take 1) (⟨#[62]⟩ : ByteArray) [.string (strOfNums [62])] (fun k => k ≠ tb) (fun _ => False) rfl rfl ?aM (fun _ h => h.elim) ?aF ?aO ?aB ?aS ?aL ?_)
     case aM => exact rfl
     case aF =>
      intro k hk e
      have := HTA.out.lt
      omega
     case aO => exact HRA.out
     case aB => exact HBA.out
     case aS => exact HBA.out.size
     case aL => decide
     intro v1 w1 ho hb hg hat
     obtain ⟨TA1, tc1, rfl⟩ := Kd.R_slice ho
     have hT1 := HTA.out.grown hg (Kd.R_away HRA.out (g := tb) (fun k hk => hk))
     have hK1 := HKA.out.step (ByKept.grown hg (Kd.R_typed HRA.out))
     have f256 := hT1.frozen 256
     have c256 := hT1.top
     obtain ⟨We, hWe⟩ : ∃ W, w1.setCell ⟨tb, 256, none⟩ (.slice TA1 2 tc1) = W := ⟨_, rfl⟩
     have hTe := hT1.setTop (.slice TA1 2 tc1)
     have hKe := hK1.step (ByKept.set hT1 (i := 256) (.slice TA1 2 tc1))
     have hRe := Kd.R_far ho (p := ⟨tb, 256, none⟩) (fun k hk => hk) (.slice TA1 2 tc1)
     have hBe := hb.setCell (p := ⟨tb, 256, none⟩) (by have := HTB.out; show _ ≤ tb; omega) (.slice TA1 2 tc1)
     rw [hWe] at hTe hKe hRe hBe
     have hcv := print_bytes (P := Tryz.prog) 9 51 5 Tryz.underlying9 Tryz.underlying51 Tryz.underlying5 (⟨#[38, 103, 116, 59]⟩ : ByteArray) We
     have hbw := bytes_below (Below.refl We.heap.size We) (Nat.le_refl _) 5 (⟨#[38, 103, 116, 59]⟩ : ByteArray)
     have hesc := escAt_new We 62 (⟨#[38, 103, 116, 59]⟩ : ByteArray) [38, 103, 116, 59] rfl rfl (by decide)
     obtain ⟨Wf, hWf⟩ : ∃ W, Lib.bytesWorld We 5 (⟨#[38, 103, 116, 59]⟩ : ByteArray) = W := ⟨_, rfl⟩
     obtain ⟨Ne, hNe⟩ : ∃ N, We.heap.size = N := ⟨_, rfl⟩
     obtain ⟨gc, hgc⟩ : ∃ N, grownCap We (⟨#[38, 103, 116, 59]⟩ : ByteArray).size 0 5 = N := ⟨_, rfl⟩
     rw [hWf] at hcv hbw hesc
     have hTf := hTe.below hbw
     have hKf := hKe.step (ByKept.below hbw)
     have hRf := Kd.R_below hRe hbw
     have hBf := hBe.trans (hbw.mono (by have := hBe.size; omega))
     rw [hNe] at hcv hesc
     rw [hgc] at hcv hesc
     have fo := hTf.frozen 62
     have co := hTf.cell (i := 62) (by omega)
     have HTF := Aside0.mk hTf
     have HKF := Aside0.mk hKf
     have HRF : Aside0 (Kd.R Kd.string 9 Wf w.heap.size (fun k => k ≠ tb) (.slice TA1 (([⟨#[34]⟩, ⟨#[62]⟩, ⟨#[60]⟩, ⟨#[38]⟩] : List ByteArray).take 2).length tc1) (([⟨#[34]⟩, ⟨#[62]⟩, ⟨#[60]⟩, ⟨#[38]⟩] : List ByteArray).take 2)) := ⟨by rw [hwn]; exact hRf⟩
     have HBF := Aside0.mk hBf
     have HESC := Aside0.mk hesc
     clear ho hb hg hat hT1 hK1 hTe hKe hRe hBe hTf hKf hRf hBf hesc hbw
     go_wp2_with fail
     refine ⟨⟨2, by omega, by go_num, ⟨⟨_, TA1, tc1, HTF.out.setAt (o := 62) (by omega) _, (HKF.out.put HESC.out).step (ByKept.set HTF.out (i := 62) _), Kd.R_far HRF.out (p := ⟨tb, 62, none⟩) (fun k hk => hk) _, ?_⟩⟩⟩, by simp [intOf]⟩
     rw [hwn]
     exact HBF.out.setCell (p := ⟨tb, 62, none⟩) (by have := HTB.out; show _ ≤ tb; omega) _
    ·
     obtain ⟨f, TA, tc, hT, hK, hR, hB⟩ := HS.out
     have c0 := pw_cell_below hB e2
     have c1 := pw_cell_below hB e3
     have t0 := hT.cell (i := 60) (by omega)
     rw [(hK 60 (by omega)).2 (by decide)] at t0
     have t1 : wr.cell? ⟨tb, 256, none⟩ = some (.slice TA 2 tc) := hT.top
     have hnil := fun W : World => Lib.run_eql_slice_nil (P := Tryz.prog) W 51 5 none 0 0 0 0 Tryz.underlying51
     obtain ⟨Wa, hWa⟩ : ∃ W, wr.alloc (.cells #[.int .u8 60] 5) = W := ⟨_, rfl⟩
     obtain ⟨Na, hNa⟩ : ∃ N, wr.heap.size = N := ⟨_, rfl⟩
     have hala := below_alloc (Below.refl wr.heap.size wr) (.cells #[.int .u8 60] 5)
     rw [hWa] at hala
     have hna : Wa.heap[Na]? = some (.cells #[.int .u8 60] 5 (0, 0)) := by rw [← hWa, ← hNa]; exact blk_newr rfl
     have hcs := one_string hna (o := 60)
     have hTa := hT.below hala
     have hKa := hK.step (ByKept.below hala)
     have hRa := Kd.R_below hR hala
     have hBa := hB.trans (hala.mono hB.size)
     have HTA := Aside0.mk hTa
     have HKA := Aside0.mk hKa
     have HRA := Aside0.mk hRa
     have HBA := Aside0.mk hBa
     clear hT hK hR hB hTa hKa hRa hBa hala hna
     have hix : ((⟨#[60]⟩ : ByteArray)[0]).toNat = 60 := rfl
     go_wp2_with ((with_reducible refine gate_builtin (b := .append) (xs := #[.tmp 119, .tmp 123]) rfl ?_); at_builtin; refine Kd.R_append Kd.string (w0 := w) (W := Wa) w.heap.size rfl (.tmp 119) (.tmp 123) 71 9 (.string ⟨#[]⟩) 16 rfl Tryz.underlying71 infoStr rfl (by decide) (by omega) (.slice TA 2 tc) (([⟨#[34]⟩, ⟨#[62]⟩, ⟨#[60]⟩, ⟨#[38]⟩] : List ByteArray).take 2) (⟨#[60]⟩ : ByteArray) [.string (strOfNums [60])] (fun k => k ≠ tb) (fun _ => False) rfl rfl ?aM (fun _ h => h.elim) ?aF ?aO ?aB ?aS ?aL ?_)
     case aM => exact rfl
     case aF =>
      intro k hk e
      have := HTA.out.lt
      omega
     case aO => exact HRA.out
     case aB => exact HBA.out
     case aS => exact HBA.out.size
     case aL => decide
     intro v1 w1 ho hb hg hat
     obtain ⟨TA1, tc1, rfl⟩ := Kd.R_slice ho
     have hT1 := HTA.out.grown hg (Kd.R_away HRA.out (g := tb) (fun k hk => hk))
     have hK1 := HKA.out.step (ByKept.grown hg (Kd.R_typed HRA.out))
     have f256 := hT1.frozen 256
     have c256 := hT1.top
     obtain ⟨We, hWe⟩ : ∃ W, w1.setCell ⟨tb, 256, none⟩ (.slice TA1 3 tc1) = W := ⟨_, rfl⟩
     have hTe := hT1.setTop (.slice TA1 3 tc1)
     have hKe := hK1.step (ByKept.set hT1 (i := 256) (.slice TA1 3 tc1))
     have hRe := Kd.R_far ho (p := ⟨tb, 256, none⟩) (fun k hk => hk) (.slice TA1 3 tc1)
     have hBe := hb.setCell (p := ⟨tb, 256, none⟩) (by have := HTB.out; show _ ≤ tb; omega) (.slice TA1 3 tc1)
     rw [hWe] at hTe hKe hRe hBe
     have hcv := print_bytes (P := Tryz.prog) 9 51 5 Tryz.underlying9 Tryz.underlying51 Tryz.underlying5 (⟨#[38, 108, 116, 59]⟩ : ByteArray) We
     have hbw := bytes_below (Below.refl We.heap.size We) (Nat.le_refl _) 5 (⟨#[38, 108, 116, 59]⟩ : ByteArray)
     have hesc := escAt_new We 60 (⟨#[38, 108, 116, 59]⟩ : ByteArray) [38, 108, 116, 59] rfl rfl (by decide)
     obtain ⟨Wf, hWf⟩ : ∃ W, Lib.bytesWorld We 5 (⟨#[38, 108, 116, 59]⟩ : ByteArray) = W := ⟨_, rfl⟩
     obtain ⟨Ne, hNe⟩ : ∃ N, We.heap.size = N := ⟨_, rfl⟩
     obtain ⟨gc, hgc⟩ : ∃ N, grownCap We (⟨#[38, 108, 116, 59]⟩ : ByteArray).size 0 5 = N := ⟨_, rfl⟩
     rw [hWf] at hcv hbw hesc
     have hTf := hTe.below hbw
     have hKf := hKe.step (ByKept.below hbw)
     have hRf := Kd.R_below hRe hbw
     have hBf := hBe.trans (hbw.mono (by have := hBe.size; omega))
     rw [hNe] at hcv hesc
     rw [hgc] at hcv hesc
     have fo := hTf.frozen 60
     have co := hTf.cell (i := 60) (by omega)
     have HTF := Aside0.mk hTf
     have HKF := Aside0.mk hKf
     have HRF : Aside0 (Kd.R Kd.string 9 Wf w.heap.size (fun k => k ≠ tb) (.slice TA1 (([⟨#[34]⟩, ⟨#[62]⟩, ⟨#[60]⟩, ⟨#[38]⟩] : List ByteArray).take 3).length tc1) (([⟨#[34]⟩, ⟨#[62]⟩, ⟨#[60]⟩, ⟨#[38]⟩] : List ByteArray).take 3)) := ⟨by rw [hwn]; exact hRf⟩
     have HBF := Aside0.mk hBf
     have HESC := Aside0.mk hesc
     clear ho hb hg hat hT1 hK1 hTe hKe hRe hBe hTf hKf hRf hBf hesc hbw
     go_wp2_with fail
     refine ⟨⟨3, by omega, by go_num, ⟨⟨_, TA1, tc1, HTF.out.setAt (o := 60) (by omega) _, (HKF.out.put HESC.out).step (ByKept.set HTF.out (i := 60) _), Kd.R_far HRF.out (p := ⟨tb, 60, none⟩) (fun k hk => hk) _, ?_⟩⟩⟩, by simp [intOf]⟩
     rw [hwn]
     exact HBF.out.setCell (p := ⟨tb, 60, none⟩) (by have := HTB.out; show _ ≤ tb; omega) _
    ·
     obtain ⟨f, TA, tc, hT, hK, hR, hB⟩ := HS.out
     have c0 := pw_cell_below hB e0
     have c1 := pw_cell_below hB e1
     have t0 := hT.cell (i := 38) (by omega)
     rw [(hK 38 (by omega)).2 (by decide)] at t0
     have t1 : wr.cell? ⟨tb, 256, none⟩ = some (.slice TA 3 tc) := hT.top
     have hnil := fun W : World => Lib.run_eql_slice_nil (P := Tryz.prog) W 51 5 none 0 0 0 0 Tryz.underlying51
     obtain ⟨Wa, hWa⟩ : ∃ W, wr.alloc (.cells #[.int .u8 38] 5) = W := ⟨_, rfl⟩
     obtain ⟨Na, hNa⟩ : ∃ N, wr.heap.size = N := ⟨_, rfl⟩
     have hala := below_alloc (Below.refl wr.heap.size wr) (.cells #[.int .u8 38] 5)
     rw [hWa] at hala
     have hna : Wa.heap[Na]? = some (.cells #[.int .u8 38] 5 (0, 0)) := by rw [← hWa, ← hNa]; exact blk_newr rfl
     have hcs := one_string hna (o := 38)
     have hTa := hT.below hala
     have hKa := hK.step (ByKept.below hala)
     have hRa := Kd.R_below hR hala
     have hBa := hB.trans (hala.mono hB.size)
     have HTA := Aside0.mk hTa
     have HKA := Aside0.mk hKa
     have HRA := Aside0.mk hRa
     have HBA := Aside0.mk hBa
     clear hT hK hR hB hTa hKa hRa hBa hala hna
     have hix : ((⟨#[38]⟩ : ByteArray)[0]).toNat = 38 := rfl
     go_wp2_with ((with_reducible refine gate_builtin (b := .append) (xs := #[.tmp 119, .tmp 123]) rfl ?_); at_builtin; refine Kd.R_append Kd.string (w0 := w) (W := Wa) w.heap.size rfl (.tmp 119) (.tmp 123) 71 9 (.string ⟨#[]⟩) 16 rfl Tryz.underlying71 infoStr rfl (by decide) (by omega) (.slice TA 3 tc) (([⟨#[34]⟩, ⟨#[62]⟩, ⟨#[60]⟩, ⟨#[38]⟩] : List ByteArray).take 3) (⟨#[38]⟩ : ByteArray) [.string (strOfNums [38])] (fun k => k ≠ tb) (fun _ => False) rfl rfl ?aM (fun _ h => h.elim) ?aF ?aO ?aB ?aS ?aL ?_)
     case aM => exact rfl
     case aF =>
      intro k hk e
      have := HTA.out.lt
      omega
     case aO => exact HRA.out
     case aB => exact HBA.out
     case aS => exact HBA.out.size
     case aL => decide
     intro v1 w1 ho hb hg hat
     obtain ⟨TA1, tc1, rfl⟩ := Kd.R_slice ho
     have hT1 := HTA.out.grown hg (Kd.R_away HRA.out (g := tb) (fun k hk => hk))
     have hK1 := HKA.out.step (ByKept.grown hg (Kd.R_typed HRA.out))
     have f256 := hT1.frozen 256
     have c256 := hT1.top
     obtain ⟨We, hWe⟩ : ∃ W, w1.setCell ⟨tb, 256, none⟩ (.slice TA1 4 tc1) = W := ⟨_, rfl⟩
     have hTe := hT1.setTop (.slice TA1 4 tc1)
     have hKe := hK1.step (ByKept.set hT1 (i := 256) (.slice TA1 4 tc1))
     have hRe := Kd.R_far ho (p := ⟨tb, 256, none⟩) (fun k hk => hk) (.slice TA1 4 tc1)
     have hBe := hb.setCell (p := ⟨tb, 256, none⟩) (by have := HTB.out; show _ ≤ tb; omega) (.slice TA1 4 tc1)
     rw [hWe] at hTe hKe hRe hBe
     have hcv := print_bytes (P := Tryz.prog) 9 51 5 Tryz.underlying9 Tryz.underlying51 Tryz.underlying5 (⟨#[38, 97, 109, 112, 59]⟩ : ByteArray) We
     have hbw := bytes_below (Below.refl We.heap.size We) (Nat.le_refl _) 5 (⟨#[38, 97, 109, 112, 59]⟩ : ByteArray)
     have hesc := escAt_new We 38 (⟨#[38, 97, 109, 112, 59]⟩ : ByteArray) [38, 97, 109, 112, 59] rfl rfl (by decide)
     obtain ⟨Wf, hWf⟩ : ∃ W, Lib.bytesWorld We 5 (⟨#[38, 97, 109, 112, 59]⟩ : ByteArray) = W := ⟨_, rfl⟩
     obtain ⟨Ne, hNe⟩ : ∃ N, We.heap.size = N := ⟨_, rfl⟩
     obtain ⟨gc, hgc⟩ : ∃ N, grownCap We (⟨#[38, 97, 109, 112, 59]⟩ : ByteArray).size 0 5 = N := ⟨_, rfl⟩
     rw [hWf] at hcv hbw hesc
     have hTf := hTe.below hbw
     have hKf := hKe.step (ByKept.below hbw)
     have hRf := Kd.R_below hRe hbw
     have hBf := hBe.trans (hbw.mono (by have := hBe.size; omega))
     rw [hNe] at hcv hesc
     rw [hgc] at hcv hesc
     have fo := hTf.frozen 38
     have co := hTf.cell (i := 38) (by omega)
     have HTF := Aside0.mk hTf
     have HKF := Aside0.mk hKf
     have HRF : Aside0 (Kd.R Kd.string 9 Wf w.heap.size (fun k => k ≠ tb) (.slice TA1 (([⟨#[34]⟩, ⟨#[62]⟩, ⟨#[60]⟩, ⟨#[38]⟩] : List ByteArray).take 4).length tc1) (([⟨#[34]⟩, ⟨#[62]⟩, ⟨#[60]⟩, ⟨#[38]⟩] : List ByteArray).take 4)) := ⟨by rw [hwn]; exact hRf⟩
     have HBF := Aside0.mk hBf
     have HESC := Aside0.mk hesc
     clear ho hb hg hat hT1 hK1 hTe hKe hRe hBe hTf hKf hRf hBf hesc hbw
     go_wp2_with fail
     refine ⟨⟨4, by omega, by go_num, ⟨⟨_, TA1, tc1, HTF.out.setAt (o := 38) (by omega) _, (HKF.out.put HESC.out).step (ByKept.set HTF.out (i := 38) _), Kd.R_far HRF.out (p := ⟨tb, 38, none⟩) (fun k hk => hk) _, ?_⟩⟩⟩, by simp [intOf]⟩
     rw [hwn]
     exact HBF.out.setCell (p := ⟨tb, 38, none⟩) (by have := HTB.out; show _ ≤ tb; omega) _
    ·
     obtain ⟨f, TA, tc, hT, hK, hR, hB⟩ := HS.out
     -- EXIT
     have HTT := Aside0.mk hT
     have HKK := Aside0.mk hK
     have HRR := Aside0.mk hR
     have HBB := Aside0.mk hB
     clear hT hK hR hB
     go_wp2_with fail
     go_ret
     exact ⟨tb, f, TA, tc, rfl, HTB.out, HTT.out, HKK.out, HRR.out, HBB.out⟩
end Go.Proofs.YtloocmeckpoflaaGreat.D
