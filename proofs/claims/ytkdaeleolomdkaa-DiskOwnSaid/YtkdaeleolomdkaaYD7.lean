import Derived.Test.YtkdaeleolomdkaaYD0
import Derived.Test.YtkdaeleolomdkaaYD6
namespace Go.Proofs.Ytkdaeleolomdkaa.D
open Go.RowKit Go.Proofs.YtkdaeleolomdkaaW.PrintWords Go.Proofs.YtkdaeleolomdkaaW.PrintLast Go.Proofs.YtkdaeleolomdkaaW.PrintMore
attribute [local go_sem] max2_int min2_int max_two min_two max_three min_three max_four min_four   -- for this text's walks alone
set_option linter.unusedVariables false
set_option linter.unusedSimpArgs false
def chunkD (l : List Int) (j : Nat) : List Int := (l.drop (48 * j)).take 48
def landL (secs : List (List Int)) (i : Nat) : List (List Int) → List (List Int)
 | [] => secs
 | c :: cs => landL (secs.set i c) (i + 1) cs
theorem landL_snoc (c : List Int) : ∀ (cs : List (List Int)) (secs : List (List Int)) (i : Nat), landL secs i (cs ++ [c]) = (landL secs i cs).set (i + cs.length) c
 | [], secs, i => by simp [landL]
 | d :: cs, secs, i => by
  rw [List.cons_append, landL, landL_snoc c cs]
  simp only [landL, List.length_cons]
  rw [show i + 1 + cs.length = i + (cs.length + 1) by omega]
theorem landL_len : ∀ (cs : List (List Int)) (secs : List (List Int)) (i : Nat), (landL secs i cs).length = secs.length
 | [], _, _ => rfl
 | d :: cs, secs, i => by rw [landL, landL_len cs, List.length_set]
theorem chunkD_len {l : List Int} {cnt j : Nat} (h : l.length = 48 * cnt) (hj : j < cnt) : (chunkD l j).length = 48 := by
 unfold chunkD
 rw [List.length_take, List.length_drop]
 omega
theorem landL_48 : ∀ (cs : List (List Int)) (secs : List (List Int)) (i : Nat), (∀ s ∈ secs, s.length = 48) → (∀ s ∈ cs, s.length = 48) → ∀ s ∈ landL secs i cs, s.length = 48
 | [], _, _, h, _ => h
 | d :: cs, secs, i, h, h2 => landL_48 cs _ _ (fun s hs => (List.mem_or_eq_of_mem_set hs).elim (h s) (fun e => by rw [e]; exact h2 d (by simp))) (fun s hs => h2 s (by simp [hs]))
theorem copy_in {l n : Nat} {P : Program} {ops : Array Oper} {rest : List Oper} {o : Oper} {a : Act} {Q : Exit → Act → World → Prop} (s x : Operand) (t t' e : TypeId)
  (ho : o.op = .call { callee := .builtin .copy, args := #[s, x], argTypes := #[t, t'] }) (hgd : o.guard = none) {w0 W : World} (base : Nat) (ht : P.underlying t = some (.slice e)) (hinfo : (P.info? e).map (·.size) = some 1)
  (v : Value) (xs ys : List Int) (A : Option Addr) (m c : Nat) (ok : Nat → Prop) (hs : a.eval s = v) (hx : a.eval x = .slice A m c)
  (HO : (Kd.int .u8).R e W base ok v xs) (HR : (Kd.int .u8).C W A m ys) (HB : Below base w0 W) (hbase : base ≤ W.heap.size)
  (h : ∀ w1, (Kd.int .u8).R e w1 base ok v (ys.take (min m xs.length) ++ xs.drop (min m xs.length)) → Below base w0 w1 → W.grownBy w1 v.ownBlock → wpListIn (Fence.wide.inRound l) n P ops Q rest (a.put o.dst (.int .i64 ((min m xs.length : Nat) : Int))) w1) :
  wpListIn (Fence.wide.inRound l) n P ops Q (o :: rest) a W :=
 wpListIn_of_list hgd (fun c e_ => by rw [ho] at e_; cases e_) (Kd.R_copy (0 : Int) base hgd s x t t' e ho ht hinfo v xs ys A m c ok hs hx HO HR HB hbase (fun w1 a b c => ⟨rfl, h w1 a b c⟩))
theorem B_cells {w w1 : World} {g : Nat} {cs : Array Value} {t : TypeId} {fr : Nat × Nat} {row : Option Nat} (h : w.heap[g]? = some (.cells cs t fr)) (hg : w.grownBy w1 row) (hr : ∀ r, row = some r → ∃ o : Obj, w.heap[r]? = some o ∧ o.isCells = false) : w1.heap[g]? = some (.cells cs t fr) :=
 (hg.block g (Array.getElem?_eq_some_iff.1 h).1 (fun e => by
  obtain ⟨o, ho, hn⟩ := hr g e.symm
  rw [h] at ho
  cases ho
  cases hn)).trans h
theorem S_cells {α : Type} {d : Kd α} {e base : Nat} {ok : Nat → Prop} {w w1 : World} {v : Value} {xs : List α} {row : Option Nat} (h : Kd.S d e w base ok v xs) (hg : w.grownBy w1 row) (hr : ∀ r, row = some r → ∃ o : Obj, w.heap[r]? = some o ∧ o.isCells = false) : Kd.S d e w1 base ok v xs :=
 Kd.S_mono (Kd.S_grown (Kd.S_bound h) hg (fun k hk e => by
  obtain ⟨_, _, _, q, _, cells, hc⟩ := hk
  obtain ⟨o, ho, hn⟩ := hr k e.symm
  rw [hc] at ho
  cases ho
  cases hn)) (fun _ hk => hk.1)
theorem blk_new {W : World} {o : Obj} {k : Nat} (h : W.heap.size = k) : (W.alloc o).heap[k]? = some o := by rw [← h]; exact World.alloc_heap_new W o
def landX (data : List Int) (cnt : Nat) (pre : List Nat) : List (List Int) := pre.map fun x => chunkD data (x % cnt)
structure LandInv (w0 : World) (P : Nat → Prop) (base : Nat) (v0 v1 : Value) (secs : List (List Int)) (sec : Nat) (data : List Int) (cnt : Nat) (nk : Int) (pre : List Nat) (W : World) : Prop where
 sb : W.heap[w0.heap.size]? = some (.cells #[v0, v1] 58 (0, 0))
 nb : W.heap[w0.heap.size + 1 + 1]? = some (.cells #[.int .i64 (nk - pre.length)] 3 (0, 0))
 ib : W.heap[w0.heap.size + 1 + 1 + 1]? = some (.cells #[.int .i64 ((sec + pre.length : Nat) : Int)] 3 (0, 0))
 row : Kd.S (Kd.slice 5 (Kd.int .u8)) 22 W base (fun k => P k ∧ k < w0.heap.size) v0 (landL secs sec (landX data cnt pre))
 kept : Kept w0 W (fun k => P k ∧ k < w0.heap.size)
 nn : pre.length = 0 ∨ (pre.length : Int) ≤ nk
 sz : w0.heap.size + 6 ≤ W.heap.size
 bel : Below base w0 W
structure LandStop (w0 : World) (P : Nat → Prop) (base : Nat) (v0 : Value) (secs : List (List Int)) (sec : Nat) (data : List Int) (cnt : Nat) (nk : Int) (c : Code) (xs : List Nat) (W : World) : Prop where
 at_ : c = .exit 0
 row : ∃ pre x, xs = pre ++ [x] ∧ nk ≤ pre.length ∧ (pre.length = 0 ∨ (pre.length : Int) ≤ nk) ∧ Kd.S (Kd.slice 5 (Kd.int .u8)) 22 W base (fun k => P k ∧ k < w0.heap.size) v0 (landL secs sec (landX data cnt pre))
 kept : Kept w0 W (fun k => P k ∧ k < w0.heap.size)
 bel : Below base w0 W
theorem kept_grow {w0 W W1 : World} {S : Nat → Prop} {row : Option Nat} (h : Kept w0 W S) (hg : W.grownBy W1 row) (hr : ∀ r, row = some r → S r ∨ w0.heap.size ≤ r) : Kept w0 W1 S :=
 ⟨Nat.le_trans h.1 hg.size, fun i hi hs => (hg.block i (Nat.lt_of_lt_of_le hi h.1) (fun e => (hr i e.symm).elim hs (fun h2 => by omega))).trans (h.2 i hi hs)⟩
theorem kept_less {w0 W : World} {P Q : Nat → Prop} (h : Kept w0 W (fun k => P k ∧ Q k)) : Kept w0 W P := ⟨h.1, fun i hi hs => h.2 i hi (fun h2 => hs h2.1)⟩
theorem landInv_own {w0 : World} {P : Nat → Prop} {base : Nat} {v0 v1 : Value} {secs : List (List Int)} {sec : Nat} {data : List Int} {cnt : Nat} {nk : Int} {B : Nat} (hbB : base ≤ w0.heap.size) (hB : w0.heap.size ≤ B) : OwnFrom B (LandInv w0 P base v0 v1 secs sec data cnt nk) := by
 rintro s X Y row ⟨h1, h2, h3, h4, h5, h6, h7, h8⟩ hg hr
 have hr' : ∀ r, row = some r → ∃ o : Obj, X.heap[r]? = some o ∧ o.isCells = false := fun r e => (hr r e).2
 exact ⟨B_cells h1 hg hr', B_cells h2 hg hr', B_cells h3 hg hr', S_cells h4 hg hr', kept_grow h5 hg (fun r e => .inr (Nat.le_trans hB (hr r e).1)), h6, Nat.le_trans h7 hg.size, h8.grown hg (Nat.le_trans hbB h8.size) (fun k e => Nat.le_trans hbB (Nat.le_trans hB (hr k e).1))⟩
theorem landStop_own {w0 : World} {P : Nat → Prop} {base : Nat} {v0 : Value} {secs : List (List Int)} {sec : Nat} {data : List Int} {cnt : Nat} {nk : Int} {c : Code} {B : Nat} (hbB : base ≤ w0.heap.size) (hB : w0.heap.size ≤ B) : OwnFrom B (LandStop w0 P base v0 secs sec data cnt nk c) := by
 rintro s X Y row ⟨h1, ⟨pre, x, h2, h3, h3b, h4⟩, h5, h6⟩ hg hr
 have hr' : ∀ r, row = some r → ∃ o : Obj, X.heap[r]? = some o ∧ o.isCells = false := fun r e => (hr r e).2
 exact ⟨h1, ⟨pre, x, h2, h3, h3b, S_cells h4 hg hr'⟩, kept_grow h5 hg (fun r e => .inr (Nat.le_trans hB (hr r e).1)), h6.grown hg (Nat.le_trans hbB h6.size) (fun k e => Nat.le_trans hbB (Nat.le_trans hB (hr k e).1))⟩
attribute [local go_sem] Oper.semAt_some
set_option maxRecDepth 100000 in
set_option maxHeartbeats 4000000 in
theorem land_in (g n0 cap0 : Nat) (A1 : Option Addr) (n1 c1 : Nat) (secs : List (List Int)) (fl : Bool) (sec : Nat) (ad : Addr) (cap : Nat) (data : List Int) (cnt : Nat) (nk : Int) (P : Nat → Prop) (base : Nat) (w : World) (hbase : base ≤ w.heap.size)
  (hS : Kd.S (Kd.slice 5 (Kd.int .u8)) 22 w base P (.slice (some ⟨g, 0, none⟩) n0 cap0) secs) (hF : Kd.F (Kd.int .u8) w (fun k => ¬ P k) (some ad) data.length data)
  (hcnt : data.length = 48 * cnt) (hc0 : 0 < cnt) (hcb : cnt ≤ 4096) (hsec : sec + cnt ≤ secs.length) (hsl : secs.length ≤ 4096) (hs48 : ∀ s ∈ secs, s.length = 48) (hcap : data.length ≤ cap) (hnk : -9223372036854775808 ≤ nk) (hnk2 : nk ≤ 9223372036854775807) :
  Calls Try.prog 80 #[.agg #[.slice (some ⟨g, 0, none⟩) n0 cap0, .slice A1 n1 c1], .agg #[.bool fl, .int .i64 (sec : Int), .slice (some ad) data.length cap], .int .i64 nk] w fun e w' => (∃ v, e = .returned v) ∧ Kd.S (Kd.slice 5 (Kd.int .u8)) 22 w' base P (.slice (some ⟨g, 0, none⟩) n0 cap0) (landL secs sec (((List.range cnt).take nk.toNat).map (chunkD data))) ∧ Kept w w' P ∧ Below base w w' := by
 refine (callsIn_wide (n := 3)).1 ?_
 have HS := Aside0.mk (Kd.S_mono (Kd.S_bound hS) (ok' := fun k => P k ∧ k < w.heap.size) (fun k hk => ⟨hk.1, hk.2.2.1⟩))
 have HF := Aside0.mk hF
 have H48 := Aside0.mk hs48
 obtain ⟨dl, hdl⟩ : ∃ dl, data.length = dl := ⟨_, rfl⟩
 have HD := Lib.hid hdl
 rw [hdl] at hcnt hcap HF ⊢
 have HC := Lib.hid hcnt
 have hdlb : dl ≤ 196608 := by omega
 clear hS hF hs48 hdl hcnt
 refine callsIn_of_wp_marks Try.func80 rfl trivial ?_ rfl
 simp only [Try.ntmps80, List.size_toArray, List.length_cons, List.length_nil, Nat.reduceAdd, Nat.reduceSub, Array.replicate_succ, Array.replicate_zero, List.push_toArray, List.append_toArray, List.nil_append, List.cons_append]
 gi_wp2_with fail
 refine ⟨trivial, (chunk_in 2 _ _ _ _).mono ?_⟩
 rintro e w' ⟨rfl, rfl⟩
 gi_wp2_with fail
 obtain ⟨wr, hwr⟩ : ∃ wr, (((((w.alloc (.cells #[.slice (some ⟨g, 0, none⟩) n0 cap0, .slice A1 n1 c1] 58)).alloc (.cells #[.bool fl, .int .i64 (sec : Int), .slice (some ad) dl cap] 57)).alloc (.cells #[.int .i64 nk] 3)).alloc (.cells #[.int .i64 (sec : Int)] 3)).alloc (.cells #[.slice (some ad) dl cap] 22)).alloc (.cells #[.int .i64 48] 3) = wr := ⟨_, rfl⟩
 have szr : wr.heap.size = w.heap.size + 6 := by rw [← hwr]; simp
 have belr : Below w.heap.size w wr := by rw [← hwr]; exact (((((((Below.refl _ w).alloc (Nat.le_refl _) _).alloc (by simp) _).alloc (by simp; omega) _).alloc (by simp; omega) _).alloc (by simp; omega) _).alloc (by simp; omega) _)
 have b0 : wr.heap[w.heap.size]? = some (.cells #[.slice (some ⟨g, 0, none⟩) n0 cap0, .slice A1 n1 c1] 58 (0, 0)) := by rw [← hwr]; exact blk_alloc (blk_alloc (blk_alloc (blk_alloc (blk_alloc (blk_new rfl) _) _) _) _) _
 have b2 : wr.heap[w.heap.size + 1 + 1]? = some (.cells #[.int .i64 nk] 3 (0, 0)) := by rw [← hwr]; exact blk_alloc (blk_alloc (blk_alloc (blk_new (by simp)) _) _) _
 have b3 : wr.heap[w.heap.size + 1 + 1 + 1]? = some (.cells #[.int .i64 (sec : Int)] 3 (0, 0)) := by rw [← hwr]; exact blk_alloc (blk_alloc (blk_new (by simp)) _) _
 have b4 : wr.heap[w.heap.size + 1 + 1 + 1 + 1]? = some (.cells #[.slice (some ad) dl cap] 22 (0, 0)) := by rw [← hwr]; exact blk_alloc (blk_new (by simp)) _
 have b5 : wr.heap[w.heap.size + 1 + 1 + 1 + 1 + 1]? = some (.cells #[.int .i64 48] 3 (0, 0)) := by rw [← hwr]; exact blk_new (by simp)
 rw [hwr]
 have hkept : Kept w wr (fun k => P k ∧ k < w.heap.size) := ⟨belr.size, fun i hi _ => belr.block i hi⟩
 have HSr := Aside0.mk (Kd.S_below HS.out belr)
 clear hwr HS
 have hcut : 48 * cnt = dl := HC.out.symm
 rw [← hcut] at b4 hcap ⊢
 refine wpIn_rangeFunc_ownH (α := Nat) (N := cnt) (encs := encC ad cnt) (Kp := KpC (w.heap.size + 1 + 1 + 1 + 1) (w.heap.size + 1 + 1 + 1 + 1 + 1)) (S := fun xs => xs = List.range cnt) (Sp := fun pre => ∃ k, k < cnt ∧ pre = List.range (k + 1)) (w0 := wr) rfl (by omega) (gf := 85) (lb := #[.pointer (some ⟨w.heap.size + 1 + 1 + 1 + 1, 0, none⟩), .pointer (some ⟨w.heap.size + 1 + 1 + 1 + 1 + 1, 0, none⟩)]) rfl trivial (enters_of Try.func85 (by kernel_rfl) rfl)
  (chunk1_in (3 - 1) (by omega) (w.heap.size + 1 + 1 + 1 + 1) (w.heap.size + 1 + 1 + 1 + 1 + 1) ad cap cnt hc0 hcb hcap wr b4 b5) (fun h k => h.trans k)
  (fun W l o o' hl hoo hcf _ => ⟨World.putObj_heap_other (by omega), World.putObj_heap_other (by omega)⟩)
  (Below.refl _ _) (fun _ => rfl) (LandInv w P base (.slice (some ⟨g, 0, none⟩) n0 cap0) (.slice A1 n1 c1) secs sec data cnt nk) (LandStop w P base (.slice (some ⟨g, 0, none⟩) n0 cap0) secs sec data cnt nk) (landInv_own hbase (by omega)) (fun c => landStop_own hbase (by omega))
  ⟨b0, by simpa using b2, by simpa using b3, HSr.out, hkept, .inl rfl, by omega, ⟨belr.os, belr.tape, belr.output, belr.size, fun k hk => belr.block k (by omega)⟩⟩
  (fun x a' _ => a' = { tmps := #[.agg #[.slice (some ⟨g, 0, none⟩) n0 cap0, .slice A1 n1 c1], .agg #[.bool fl, .int .i64 (sec : Int), .slice (some ad) dl cap], .int .i64 nk, .pointer (some ⟨w.heap.size, 0, none⟩), .pointer (some ⟨w.heap.size + 1, 0, none⟩), .pointer (some ⟨w.heap.size + 1 + 1, 0, none⟩), .pointer (some ⟨w.heap.size + 1 + 1 + 1, 0, none⟩), .slice (some (ad.add (48 * (x % cnt)))) 48 48, .pointer (some ⟨w.heap.size + 1, 1, none⟩), .int .i64 (sec : Int), .pointer (some ⟨w.heap.size + 1, 2, none⟩), .slice (some ad) dl cap, .func (.func 85) #[] #[.pointer (some ⟨w.heap.size + 1 + 1 + 1 + 1, 0, none⟩), .pointer (some ⟨w.heap.size + 1 + 1 + 1 + 1 + 1, 0, none⟩)], .slice (some (ad.add (48 * (x % cnt)))) 48 48, undef, undef, undef, undef, undef, undef, undef, undef, undef, undef, undef, undef, undef], defers := [] })
  (fun _ _ _ _ _ _ hs _ _ => hs) ?assign ?body ?done ?stop
 case assign =>
  intro l pre x W K hi hK
  have HK := Aside0.mk (hK _ W (KeepsFrom.refl _ _) ⟨rfl, rfl⟩ hi rfl)
  clear hK hi
  simp only [encC]
  gi_wp2
  exact HK.out
 case body =>
  intro l pre x a' W hl hlr hi ha' hlt
  subst ha'
  clear hl hlr b0 b2 b3 b4 b5 hkept belr HSr szr
  obtain ⟨h1, h2, h3, h4, h5, h6, h7, h8⟩ := hi
  obtain ⟨y, hy⟩ : ∃ y, x % cnt = y := ⟨_, rfl⟩
  have hyl : y < cnt := by rw [← hy]; exact Nat.mod_lt _ hc0
  have HY := Lib.hid hy
  rw [hy]
  clear hy
  obtain ⟨z, hz⟩ : ∃ z, nk - (pre.length : Int) = z := ⟨_, rfl⟩
  rw [hz] at h2
  have HZ := Lib.hid hz
  by_cases hb : nk ≤ pre.length
  ·
   have q2 : W.cell? ⟨w.heap.size + 1 + 1, 0, none⟩ = some (.int .i64 z) := Boxed.cell h2
   have hd : decide (z ≤ 0) = true := decide_eq_true (by omega)
   have H4 := Aside0.mk h4
   have H5 := Aside0.mk h5
   have H6 := Aside0.mk h6
   have H8 := Aside0.mk h8
   clear h1 h2 h3 h4 h5 h6 h8 hz
   gi_wp2
   exact ⟨KeepsFrom.refl _ _, ⟨rfl, ⟨pre, x, rfl, hb, H6.out, H4.out⟩, H5.out, H8.out⟩⟩
  ·
   have hz0 : 0 < z := by omega
   have hzb : z ≤ 9223372036854775807 := by omega
   have hd : decide (z ≤ 0) = false := decide_eq_false (by omega)
   obtain ⟨j, hj⟩ : ∃ j, sec + pre.length = j := ⟨_, rfl⟩
   rw [hj] at h3
   have HJ := Lib.hid hj
   have hjl : j < secs.length := by omega
   obtain ⟨XS, hXS⟩ : ∃ XS, landL secs sec (landX data cnt pre) = XS := ⟨_, rfl⟩
   rw [hXS] at h4
   have hXl : XS.length = secs.length := by rw [← hXS, landL_len]
   have hn0 : n0 = XS.length := (Kd.S_reads' h4).1
   have q2 : W.cell? ⟨w.heap.size + 1 + 1, 0, none⟩ = some (.int .i64 z) := Boxed.cell h2
   have z2 := blk_frozen h2 0
   have k1 := blk_far h1 (p := ⟨w.heap.size + 1 + 1, 0, none⟩) (by dsimp only; omega) (.int .i64 (z - 1))
   have k2 := blk_put (cs' := #[.int .i64 (z - 1)]) h2 0 (.int .i64 (z - 1)) rfl
   have k3 := blk_far h3 (p := ⟨w.heap.size + 1 + 1, 0, none⟩) (by dsimp only; omega) (.int .i64 (z - 1))
   have k4 := Kd.S_set h4 h2 (by decide) 0 (.int .i64 (z - 1))
   have k5 := kept_grow h5 (grownBy_setCell' W (w.heap.size + 1 + 1) (.int .i64 (z - 1))) (fun r e => by cases e; right; omega)
   obtain ⟨oki, c, hcl, hM, hcc, hfr, hoki, hH⟩ := Kd.S_elem k4 [] (j : Int) (by omega) (by omega)
   obtain ⟨v', rfl, hR⟩ := hM
   simp only [Int.toNat_natCast] at hcc hR
   obtain ⟨A', c', rfl⟩ := Kd.R_slice hR
   have hl48 : (XS.getD j []).length = 48 := by
    rw [List.getD_eq_getElem?_getD, List.getElem?_eq_getElem (by omega)]
    simp only [Option.getD_some]
    refine landL_48 _ secs sec H48.out (fun s hs => ?_) _ (by rw [hXS]; exact List.getElem_mem _)
    obtain ⟨q, _, rfl⟩ := List.mem_map.1 hs
    exact chunkD_len (HD.out.trans HC.out) (Nat.mod_lt _ hc0)
   have hx := hcc 0 _ rfl
   rw [show j * (Kd.slice 5 (Kd.int .u8)).sz + 0 = j from by show j * 1 + 0 = j; omega, hl48] at hx
   rw [hl48] at hR hH
   obtain ⟨Y, hY⟩ : ∃ Y, XS.getD j [] = Y := ⟨_, rfl⟩
   rw [hY] at hR hl48
   have hD1 := Kd.F_now (Kd.F_kept HF.out k5 (fun k hk h2 => hk h2.1))
   rw [← HD.out] at hD1
   have hD2 := Kd.C_mid (c := cap) hD1 (lo := 48 * y) (hi := 48 * y + 48) (by omega) (by rw [HD.out]; omega) (by rw [HD.out]; omega)
   have hck : (data.take (48 * y + 48)).drop (48 * y) = chunkD data y := by unfold chunkD; rw [List.drop_take]; congr 1; omega
   have hckl : (chunkD data y).length = 48 := chunkD_len (HD.out.trans HC.out) hyl
   rw [hck, hckl, if_neg (by omega), Option.map_some, show 48 * y * (Kd.int .u8).sz = 48 * y from Nat.mul_one _] at hD2
   obtain ⟨Z, hZ⟩ : ∃ Z, chunkD data y = Z := ⟨_, rfl⟩
   rw [hZ] at hD2 hckl
   have e0 : (W.setCell ⟨w.heap.size + 1 + 1, 0, none⟩ (.int .i64 (z - 1))).cell? ⟨w.heap.size, 0, none⟩ = some (.slice (some ⟨g, 0, none⟩) n0 cap0) := blk_cell k1 0
   have e3 : (W.setCell ⟨w.heap.size + 1 + 1, 0, none⟩ (.int .i64 (z - 1))).cell? ⟨w.heap.size + 1 + 1 + 1, 0, none⟩ = some (.int .i64 (j : Int)) := Boxed.cell k3
   have hjn : j < n0 := by omega
   have HR := Aside0.mk hR
   have HD2 := Aside0.mk hD2
   have HYl := Aside0.mk hl48
   have HZl := Aside0.mk hckl
   have hbw : base ≤ (W.setCell ⟨w.heap.size + 1 + 1, 0, none⟩ (.int .i64 (z - 1))).heap.size := by have := k5.1; omega
   have HH := Aside0.mk hH
   have K1 := Aside0.mk k1
   have K2 := Aside0.mk k2
   have K3 := Aside0.mk k3
   have K5 := Aside0.mk k5
   have HOK := Aside0.mk hoki
   have HXS := Aside0.mk hXS
   have HYY := Aside0.mk hY
   have HXL := Aside0.mk hXl
   have HZZ := Aside0.mk hZ
   have H2 := Aside0.mk h2
   have H3 := Aside0.mk h3
   have HBW := Aside0.mk hbw
   have H7 := Aside0.mk h7
   have H8 := Aside0.mk h8
   clear hR hD1 hD2 hl48 hckl hck hcc hH k1 k2 k3 k4 k5 h1 h2 h3 h4 h5 h6 h7 h8 hXS hY hXl hn0 hcl hfr hoki hz hj hZ hbw
   gi_wp2_with (with_reducible refine copy_in (.tmp 22) (.tmp 23) 22 22 5 rfl rfl base Try.underlying22 (by kernel_rfl) (.slice A' 48 c') Y Z (some (ad.add (48 * y))) 48 48 oki rfl rfl HR.out HD2.out (Below.refl _ _) HBW.out ?_)
   intro w1 hR1 _ hg
   have hrow : ∀ r, (Value.slice A' 48 c').ownBlock = some r → (P r ∧ r < w.heap.size) ∧ oki r := fun r e => ⟨(HOK.out r (HR.out.1 r e)).1, HR.out.1 r e⟩
   have hne : ∀ r, w.heap.size ≤ r → some r ≠ (Value.slice A' 48 c').ownBlock := fun r hr e => by have := (hrow r e.symm).1.2; omega
   have m1 := blk_grown K1.out hg (hne _ (Nat.le_refl _))
   have m2 := blk_grown K2.out hg (hne _ (by omega))
   have m3 := blk_grown K3.out hg (hne _ (by omega))
   have m5 := kept_grow K5.out hg (fun r e => .inl (hrow r e).1)
   have hRZ : (Kd.int .u8).R 5 w1 base oki (.slice A' 48 c') Z := by
    have h := hR1
    rw [HYl.out, Nat.min_self, List.take_of_length_le (by rw [HZl.out]; exact Nat.le_refl _), List.drop_of_length_le (by rw [HYl.out]; exact Nat.le_refl _), List.append_nil] at h
    exact h
   have m4 := Kd.H_back (x' := Z) (Kd.H_grown HH.out hg (fun r e => (hrow r e).2)) ⟨_, rfl, hRZ⟩ (fun _ hk => hk)
   rw [Int.toNat_natCast] at m4
   have q3 : w1.cell? ⟨w.heap.size + 1 + 1 + 1, 0, none⟩ = some (.int .i64 (j : Int)) := Boxed.cell m3
   have z3 := blk_frozen m3 0
   have hjb : j < 4096 := by omega
   have s1 := blk_far m1 (p := ⟨w.heap.size + 1 + 1 + 1, 0, none⟩) (by dsimp only; omega) (.int .i64 ((j : Int) + 1))
   have s2 := blk_far m2 (p := ⟨w.heap.size + 1 + 1 + 1, 0, none⟩) (by dsimp only; omega) (.int .i64 ((j : Int) + 1))
   have s3 := blk_put (cs' := #[.int .i64 ((j : Int) + 1)]) m3 0 (.int .i64 ((j : Int) + 1)) rfl
   have s4 := Kd.S_set m4 m3 (by decide) 0 (.int .i64 ((j : Int) + 1))
   have s5 := kept_grow m5 (grownBy_setCell' w1 (w.heap.size + 1 + 1 + 1) (.int .i64 ((j : Int) + 1))) (fun r e => by cases e; right; omega)
   have G := Aside0.mk hg
   have HNE := Aside0.mk hne
   have HROW := Aside0.mk hrow
   have HTY := Aside0.mk (Kd.R_typed HR.out)
   have S1 := Aside0.mk s1
   have S2 := Aside0.mk s2
   have S3 := Aside0.mk s3
   have S4 := Aside0.mk s4
   have S5 := Aside0.mk s5
   clear m1 m2 m3 m4 m5 s1 s2 s3 s4 s5 hR1 hRZ hg hne hrow e0 e3 q2 z2 hx K1 K2 K3 K5 HH
   gi_wp2
   refine ⟨⟨?_, fun i o hi ho hn => ?_⟩, ⟨?_, ?_⟩, ⟨S1.out, ?_, ?_, ?_, S5.out, .inr ?_, ?_, ?_⟩⟩
   ·
    have := G.out.size; simpa using this
   ·
    refine (Below.heap_setCell _ _ _ i (by dsimp only; intro e; subst e; have h_ := H3.out; rw [ho] at h_; cases h_; cases hn)).trans (blk_grown (w := W.setCell ⟨w.heap.size + 1 + 1, 0, none⟩ (.int .i64 (z - 1))) ((Below.heap_setCell _ _ _ i (by dsimp only; intro e; subst e; have h_ := H2.out; rw [ho] at h_; cases h_; cases hn)).trans ho) G.out (fun e => ?_))
    obtain ⟨cc, hc⟩ := HTY.out _ e.symm
    rw [Below.heap_setCell _ _ _ i (by dsimp only; intro e; subst e; have h_ := H2.out; rw [ho] at h_; cases h_; cases hn), ho] at hc
    cases hc
    cases hn
   ·
    exact (Below.heap_setCell _ _ _ _ (by dsimp only; omega)).trans ((G.out.block _ (by have := H7.out; show _ < (W.setCell _ _).heap.size; simp; omega) (HNE.out _ (by omega))).trans (Below.heap_setCell _ _ _ _ (by dsimp only; omega)))
   ·
    exact (Below.heap_setCell _ _ _ _ (by dsimp only; omega)).trans ((G.out.block _ (by have := H7.out; show _ < (W.setCell _ _).heap.size; simp; omega) (HNE.out _ (by omega))).trans (Below.heap_setCell _ _ _ _ (by dsimp only; omega)))
   ·
    have h_ := S2.out
    rw [show nk - ((pre ++ [x]).length : Int) = z - 1 from by rw [← HZ.out]; simp; omega]
    exact h_
   ·
    have h_ := S3.out
    rw [show ((sec + (pre ++ [x]).length : Nat) : Int) = (j : Int) + 1 from by rw [← HJ.out]; simp; omega]
    exact h_
   ·
    have h_ := S4.out
    rw [show landL secs sec (landX data cnt (pre ++ [x])) = XS.set j Z from by unfold landX; rw [List.map_append, List.map_cons, List.map_nil, landL_snoc]; rw [show landL secs sec (pre.map fun x => chunkD data (x % cnt)) = XS from HXS.out, List.length_map, HJ.out, HY.out, HZZ.out]]
    exact h_
   ·
    simp; omega
   ·
    have h_ := G.out.size; have := H7.out; simp at h_ ⊢; omega
   ·
    exact ((H8.out.setCell (p := ⟨w.heap.size + 1 + 1, 0, none⟩) (by dsimp only; omega) _).grown G.out HBW.out (fun k e => Kd.R_base HR.out k e)).setCell (p := ⟨w.heap.size + 1 + 1 + 1, 0, none⟩) (by dsimp only; omega) _
 case done =>
  rintro D xs W hD rfl ⟨h1, h2, h3, h4, h5, h6, h7, h8⟩ hK
  have H4 := Aside0.mk h4
  have H5 := Aside0.mk h5
  have H6 := Aside0.mk h6
  have HK := Aside0.mk hK
  have H8 := Aside0.mk h8
  clear h1 h2 h3 h4 h5 h6 h7 h8 hK
  gi_wp2
  refine ⟨by simp, .inl ⟨_, _, rfl, run_takeDeferred HK.out, ?_⟩⟩
  refine ⟨_, results_none rfl _ _ _, ⟨_, rfl⟩, ?_, kept_less (kept_grow H5.out (grownBy_putObj' W D _) (fun r e => by cases e; right; omega)), H8.out.grown (grownBy_putObj' W D _) (Nat.le_trans hbase H8.out.size) (fun k e => by cases e; omega)⟩
  have hr : ((List.range cnt).take nk.toNat).map (chunkD data) = landX data cnt (List.range cnt) := by
   have hq := H6.out
   rw [List.length_range] at hq
   rw [List.take_of_length_le (by rw [List.length_range]; omega)]
   unfold landX
   exact List.map_congr_left fun q hq => by rw [Nat.mod_eq_of_lt (List.mem_range.1 hq)]
  rw [hr]
  exact Kd.S_mono (S_cells H4.out (grownBy_putObj' W D _) (fun r e => by cases e; exact ⟨_, HK.out, rfl⟩)) (fun _ hk => hk.1)
 case stop =>
  rintro D c pre W hD ⟨k, hk, rfl⟩ ⟨hc, ⟨pre', x, e, h3, h4, h5⟩, h6, h8⟩ hK
  subst hc
  have H3 := Aside0.mk h3
  have H4 := Aside0.mk h4
  have H5 := Aside0.mk h5
  have H6 := Aside0.mk h6
  have HK := Aside0.mk hK
  have HE := Aside0.mk e
  have H8 := Aside0.mk h8
  clear h3 h4 h5 h6 h8 hK e
  gi_wp2
  refine ⟨by simp, .inl ⟨_, _, rfl, run_takeDeferred HK.out, ?_⟩⟩
  refine ⟨_, results_none rfl _ _ _, ⟨_, rfl⟩, ?_, kept_less (kept_grow H6.out (grownBy_putObj' W D _) (fun r e => by cases e; right; omega)), H8.out.grown (grownBy_putObj' W D _) (Nat.le_trans hbase H8.out.size) (fun k e => by cases e; omega)⟩
  have hp : pre' = List.range k := by
   have := HE.out
   rw [List.range_succ] at this
   exact (List.append_inj_left' this rfl).symm
  subst hp
  have hr : ((List.range cnt).take nk.toNat).map (chunkD data) = landX data cnt (List.range k) := by
   have hq := H4.out
   have hq3 := H3.out
   rw [List.length_range] at hq hq3
   rw [List.take_range, Nat.min_eq_left (show nk.toNat ≤ cnt by omega), show nk.toNat = k by omega]
   unfold landX
   exact List.map_congr_left fun q hq => by rw [Nat.mod_eq_of_lt (by have := List.mem_range.1 hq; omega)]
  rw [hr]
  exact Kd.S_mono (S_cells H5.out (grownBy_putObj' W D _) (fun r e => by cases e; exact ⟨_, HK.out, rfl⟩)) (fun _ hk => hk.1)
end Go.Proofs.Ytkdaeleolomdkaa.D
