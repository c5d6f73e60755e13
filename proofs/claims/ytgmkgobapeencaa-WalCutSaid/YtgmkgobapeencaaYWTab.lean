/- What the print's words and the walks are, as far as this claim names them. -/
import Derived.Test.YtgmkgobapeencaaYWMore
import Derived.Test.YtgmkgobapeencaaYWLast
import Derived.Test.YtgmkgobapeencaaYWWords
namespace Go.Proofs.YtgmkgobapeencaaW.PrintWords
open Go.RowKit
theorem eB {g : Nat} {o : Obj} {w W : World} (H : Aside0 (w.heap[g]? = some o)) (hb : Below w.heap.size w W := by (with_reducible repeat (first | exact Below.refl _ _ | apply below_alloc | apply pw_below_drewN | apply below_drew1))) : W.heap[g]? = some o := blk_below H.out hb
theorem oD {p : Prop} [Decidable p] (h : decide p = true := by first | (with_reducible assumption) | assumption) : p := of_decide_eq_true h
theorem eE {α : Type} {a b : α} (h : a = b := by first | rfl | (simp [errW_none, errW_some] <;> rfl) | (simp [*, errW_none, errW_some] <;> rfl)) : a = b := h
theorem eK {g : Nat} {o : Obj} {w W : World} (h : w.heap[g]? = some o) (hb : Below w.heap.size w W := by ((with_reducible repeat (first | apply below_alloc | apply pw_below_drewN | apply below_drew1)); exact Below.refl _ _)) : W.heap[g]? = some o := blk_below h hb
theorem eH {b : Nat} {w0 w W : World} (H : Aside0 (Below b w0 w)) (h : Below b w0 w → Below b w0 W := by (intro hh_; repeat (first | (with_reducible first | exact hh_ | apply below_alloc | apply pw_below_drewN | apply below_drew1 | (refine below_set ?_ (Aside0.out ?_); rotate_left; assumption)) | exact hh_))) : Below b w0 W := h H.out
namespace Kd
section
variable {α : Type} {d : Kd α} {e base n : Nat} {ok : Nat → Prop} {w0 w W : World} {v : Value} {xs : List α} {A : Option Addr}
theorem eR (H : Aside0 (d.R e w base ok v xs)) (hb : Below w.heap.size w W := by (with_reducible repeat (first | exact Below.refl _ _ | apply below_alloc | apply pw_below_drewN | apply below_drew1))) : d.R e W base ok v xs := R_below H.out hb
theorem eS (H : Aside0 (Kd.S d e w base ok v xs)) (hb : Below w.heap.size w W := by (with_reducible repeat (first | exact Below.refl _ _ | apply below_alloc | apply pw_below_drewN | apply below_drew1))) : Kd.S d e W base ok v xs := S_below H.out hb
theorem eN (H : Aside0 (N d e w base ok v xs)) (hb : Below w.heap.size w W := by (with_reducible repeat (first | exact Below.refl _ _ | apply below_alloc | apply pw_below_drewN | apply below_drew1))) : N d e W base ok v xs := N_below H.out hb
theorem eV (H : Aside0 (V d e w base ok v xs)) (hb : Below w.heap.size w W := by (with_reducible repeat (first | exact Below.refl _ _ | apply below_alloc | apply pw_below_drewN | apply below_drew1))) : V d e W base ok v xs := V_below H.out hb
theorem eQ (H : Aside0 (d.Q e w base ok v xs)) (hb : Below w.heap.size w W := by (with_reducible repeat (first | exact Below.refl _ _ | apply below_alloc | apply pw_below_drewN | apply below_drew1))) : d.Q e W base ok v xs := Q_below H.out hb
theorem kR (h : d.R e w base ok v xs) (hb : Below w.heap.size w W := by ((with_reducible repeat (first | apply below_alloc | apply pw_below_drewN | apply below_drew1)); exact Below.refl _ _)) : d.R e W base ok v xs := R_below h hb
theorem kS (h : Kd.S d e w base ok v xs) (hb : Below w.heap.size w W := by ((with_reducible repeat (first | apply below_alloc | apply pw_below_drewN | apply below_drew1)); exact Below.refl _ _)) : Kd.S d e W base ok v xs := S_below h hb
theorem kN (h : N d e w base ok v xs) (hb : Below w.heap.size w W := by ((with_reducible repeat (first | apply below_alloc | apply pw_below_drewN | apply below_drew1)); exact Below.refl _ _)) : N d e W base ok v xs := N_below h hb
theorem kV (h : V d e w base ok v xs) (hb : Below w.heap.size w W := by ((with_reducible repeat (first | apply below_alloc | apply pw_below_drewN | apply below_drew1)); exact Below.refl _ _)) : V d e W base ok v xs := V_below h hb
theorem kC (h : d.C w A n xs) (hb : Below w.heap.size w W := by ((with_reducible repeat (first | apply below_alloc | apply pw_below_drewN | apply below_drew1)); exact Below.refl _ _)) : d.C W A n xs := C_below h hb
theorem eC (H : Aside0 (d.C w0 A n xs)) (HB : Aside0 (Below w0.heap.size w0 w)) (hb : Below w.heap.size w W := by (with_reducible repeat (first | exact Below.refl _ _ | apply below_alloc | apply pw_below_drewN | apply below_drew1))) : d.C W A n xs := C_below (C_below H.out HB.out) hb
end
def PartS {α : Type} (d : Kd α) (e : Nat) (W : World) (base N : Nat) (v : Value) (xs : List α) (m : Nat) : Prop :=
 ∃ (rows : List (List Value)) (f : Nat → Nat), rows.length = xs.length ∧ (raw d.sz).R e W base (fun _ => True) v rows ∧
  ∀ (j : Nat) (x : α) (c : List Value), xs[j]? = some x → rows[j]? = some c → (j < m → d.M W base (fun k => some k ≠ v.ownBlock ∧ f k = j) x c) ∧ (m ≤ j → FK d W (fun k => k < N) x c)
section
variable {α : Type} {d : Kd α} {e base N n cap g m : Nat} {W W1 : World} {v : Value} {xs : List α} {rows : List (List Value)}
theorem PartS_start (hR : (raw d.sz).R e W base (fun _ => True) v rows) (hl : rows.length = xs.length) (hf : ∀ (j : Nat) (x : α) (c : List Value), xs[j]? = some x → rows[j]? = some c → FK d W (fun k => k < N) x c) : PartS d e W base N v xs 0 :=
 ⟨rows, fun _ => 0, hl, hR, fun j x c hx hc => ⟨fun h => by omega, fun _ => hf j x c hx hc⟩⟩
theorem PartS_set {gx t : Nat} {cells : Array Value} (h : PartS d e W base N v xs m) (hb : W.heap[gx]? = some (.cells cells t (0, 0))) (ht : ∀ q, q ∈ e :: d.E → q ≠ t) (hgx : N ≤ gx) (j : Nat) (u : Value) : PartS d e (W.setCell ⟨gx, j, none⟩ u) base N v xs m := by
 obtain ⟨rows, f, hl, hR, hf⟩ := h
 refine ⟨rows, f, hl, R_set hR hb (fun q hq => ht q (by simpa using .inl (by simpa [raw] using hq))) j u, fun i x c hx hc => ⟨fun hi => ?_, fun hi => ?_⟩⟩
 ·
  exact d.M_mono (fun k hk => hk.1) (M_far (p := ⟨gx, j, none⟩) (M_types ((hf i x c hx hc).1 hi) hb (fun q hq => ht q (List.mem_cons_of_mem _ hq))) (fun _ hk => hk.2) u)
 ·
  exact FK_step ((hf i x c hx hc).2 hi) (fun k hk _ => Below.heap_setCell W ⟨gx, j, none⟩ u k (by show k ≠ gx; omega))
theorem PartS_slice (h : PartS d e W base N v xs m) : ∃ A c, v = .slice A xs.length c := by
 obtain ⟨rows, f, hl, hR, hf⟩ := h
 obtain ⟨A, c, he⟩ := R_slice hR
 exact ⟨A, c, by rw [he, hl]⟩
theorem PartS_form (h : PartS d e W base N v xs m) (hp : 0 < xs.length) : ∃ g cap, v = .slice (some ⟨g, 0, none⟩) xs.length cap ∧ base ≤ g ∧ g < W.heap.size ∧ ∃ cells, W.heap[g]? = some (.cells cells e (0, 0)) := by
 obtain ⟨rows, f, hl, hR, _⟩ := h
 rw [← hl] at hp ⊢
 exact R_form hR hp
theorem PartS_cells (h : PartS d e W base N (.slice (some ⟨g, 0, none⟩) n cap) xs m) (i : Nat) (hi : i < xs.length) :
  ∃ c, c.length = d.sz ∧ (∀ j u, c[j]? = some u → W.cell? ⟨g, i * d.sz + j, none⟩ = some u) ∧ (∀ j, W.frozen? ⟨g, i * d.sz + j, none⟩ = false) ∧ (m ≤ i → FK d W (fun k => k < N) xs[i] c) := by
 obtain ⟨rows, f, hl, hR, hf⟩ := h
 have hn := (R_reads' hR).1
 obtain ⟨c, hcl, hM, hcc, hfr⟩ := R_elem hR [] (i : Int) (by omega) (by omega)
 simp only [Int.toNat_natCast] at hcc hfr hM
 have hil : i < rows.length := by omega
 have hc : c = rows[i] := by
  have h2 := hM.1
  rwa [List.getD_eq_getElem?_getD, List.getElem?_eq_getElem hil] at h2
 exact ⟨c, hcl, hcc, hfr, fun hmi => (hf i _ c (List.getElem?_eq_getElem hi) (by rw [hc]; exact List.getElem?_eq_getElem hil)).2 hmi⟩
theorem PartS_store (h : PartS d e W base N (.slice (some ⟨g, 0, none⟩) n cap) xs m) (hm : m < xs.length) (hN : N ≤ base) {c seg : List Value} {j : Nat} (hcl : c.length = d.sz) (hcc : ∀ j u, c[j]? = some u → W.cell? ⟨g, m * d.sz + j, none⟩ = some u)
  (hb : Below W.heap.size W W1) (hj : j + seg.length ≤ d.sz) {okp : Nat → Prop} (hM : d.M W1 base okp xs[m] (c.take j ++ seg ++ c.drop (j + seg.length))) (hokp : ∀ k, okp k → W.heap.size ≤ k) :
  PartS d e (W1.setCells g (m * d.sz + j) seg) base N (.slice (some ⟨g, 0, none⟩) n cap) xs (m + 1) := by
 obtain ⟨rows, f, hl, hR, hf⟩ := h
 have hn := (R_reads' hR).1
 have hgo : some g = (Value.slice (some ⟨g, 0, none⟩) n cap).ownBlock := by simp [Value.ownBlock]
 have hgl := R_lt hR g hgo.symm
 have hgb := R_base hR g hgo.symm
 have hR1 := R_below hR hb
 have hcc1 : ∀ j u, c[j]? = some u → W1.cell? ⟨g, (m : Int).toNat * d.sz + j, none⟩ = some u := fun j u hu => by
  rw [Int.toNat_natCast]
  exact (hb.cell (p := ⟨g, m * d.sz + j, none⟩) hgl).trans (hcc j u hu)
 obtain ⟨h2, h3⟩ := R_seg hR1 (m : Int) (by omega) (by omega) (c := c) (seg := seg) (j := j) (x' := c.take j ++ seg ++ c.drop (j + seg.length)) (okp := fun _ => False) hcl hcc1 hj ⟨rfl, d.K_len (d.K_of_M hM), d.K_one (d.K_of_M hM)⟩ (fun _ hk => hk.elim)
 simp only [Int.toNat_natCast] at h2 h3
 refine ⟨rows.set m (c.take j ++ seg ++ c.drop (j + seg.length)), fun k => if W.heap.size ≤ k then m else f k, by rw [List.length_set, hl], h2, fun i x q hx hq => ?_⟩
 by_cases hi : i = m
 ·
  subst hi
  rw [List.getElem?_set_self (by omega)] at hq
  injection hq with hq
  subst hq
  rw [List.getElem?_eq_getElem hm] at hx
  injection hx with hx
  subst hx
  refine ⟨fun _ => ?_, fun h => by omega⟩
  have := M_grown hM h3 (fun k hk he => by have := hokp k hk; injection he with he; omega)
  refine d.M_mono (fun k hk => ⟨fun he => ?_, ?_⟩) this
  ·
   rw [← hgo] at he; injection he with he; have := hokp k hk; omega
  ·
   show (if W.heap.size ≤ k then _ else f k) = _
   rw [if_pos (hokp k hk)]
 ·
  rw [List.getElem?_set_ne (Ne.symm hi)] at hq
  obtain ⟨f1, f2⟩ := hf i x q hx hq
  refine ⟨fun hlt => ?_, fun hle => ?_⟩
  ·
   have h4 := d.M_bound (f1 (by omega))
   have h5 := M_below h4 hb
   have h6 := M_grown h5 h3 (fun k hk he => hk.1.1 (by rw [he]; exact hgo))
   refine d.M_mono (fun k hk => ⟨hk.1.1, ?_⟩) h6
   have hlt2 := hk.2.2.1
   show (if W.heap.size ≤ k then _ else f k) = _
   rw [if_neg (by omega)]
   exact hk.1.2
  ·
   exact FK_grown (FK_below (f2 (by omega)) hb) h3 (fun k hk he => by injection he with he; omega)
theorem V_away' {α : Type} {d : Kd α} {e base n c g : Nat} {ok : Nat → Prop} {W : World} {xs : List α} {ad : Addr} (h : V d e W base ok (.slice (some ad) n c) xs) {i : Int} (h0 : (0 ≤ i) = True) (h1 : (i < (xs.length : Int)) = True) (hok : ∀ k, ok k → k ≠ g) (hs : 0 < d.sz := by decide) : some g ≠ (Value.slice (some ad) n c).ownBlock := by
 obtain ⟨A, c', hv, hl, hf⟩ := h
 have h0' : 0 ≤ i := of_eq_true h0
 have h1' : i < (xs.length : Int) := of_eq_true h1
 injection hv with ha _ _
 subst ha
 obtain ⟨ad', q, he, _, _, _, hb⟩ := F_get hf (xs[i.toNat]'(by omega)) i h0' h1'
 injection he with he
 subst he
 intro hg
 simp [Value.ownBlock] at hg
 exact hok _ (hb hs) hg.symm
theorem PartS_end (h : PartS d e W base N v xs xs.length) : S d e W base (fun _ => True) v xs := by
 obtain ⟨rows, f, hl, hR, hf⟩ := h
 obtain ⟨h0, inner, hown, hr⟩ := hR
 refine ⟨f, fun _ _ => trivial, inner, by rw [List.length_zipIdx, ← hl]; exact hown, by rw [List.length_zipIdx, ← hl]; exact hr.1, fun j p hj => ?_⟩
 rw [List.getElem?_zipIdx, Nat.zero_add] at hj
 obtain ⟨q, hq, rfl⟩ := Option.map_eq_some_iff.1 hj
 have hjl : j < xs.length := (List.getElem?_eq_some_iff.1 hq).1
 have hc := (hr.2 j _ (List.getElem?_eq_getElem (by omega))).1
 have h1 := (hf j q rows[j] hq (List.getElem?_eq_getElem (by omega))).1 hjl
 show d.M W base _ q ((inner.drop (j * d.sz)).take d.sz)
 have hc' : (inner.drop (j * d.sz)).take d.sz = rows[j] := hc
 rw [hc']
 exact d.M_mono (fun k hk => ⟨⟨trivial, hk.1⟩, hk.2⟩) h1
theorem PartS_append_rows {P : Program} {ops : Array Oper} {rest : List Oper} {o : Oper} {a : Act} {Q : Exit → Act → World → Prop} (d : Kd α) {w0 W : World} (base N : Nat) (hgd : o.guard = none) (s x : Operand) (t e : TypeId) (z : Value) (bytes : Nat)
  (ho : o.op = .call { callee := .builtin .append, args := #[s, x], argTypes := #[t, t] })
  (ht : P.underlying t = some (.slice e)) (hinfo : (P.info? e).map (fun i => (i.zero, i.size, i.bytes)) = some (some z, d.sz, bytes)) (hz : z.cells.size = d.sz) (hs0 : 0 < d.sz) (hb0 : 0 < bytes)
  (v : Value) (ys : List α) (A : Option Addr) (mm c : Nat) (hs : a.eval s = v) (hx : a.eval x = .slice A mm c)
  (HO : (raw d.sz).R e W base (fun _ => True) v []) (HR : F d W (fun k => k < N) A mm ys) (hN : N ≤ base)
  (HB : Below base w0 W) (hbase : base ≤ W.heap.size) (hl : mm * bytes ≤ 140737488355328)
  (h : ∀ v1 w1, PartS d e w1 base N v1 ys 0 → Below base w0 w1 → wpList P ops Q rest (a.put o.dst v1) w1) :
  wpList P ops Q (o :: rest) a W := by
 obtain ⟨news, hnl, hnr, hnf⟩ := reads_raw (F_rows HR) (fun y c hk => ⟨d.K_len (FK_now hk), d.K_one (FK_now hk)⟩)
 refine R_append_rows (raw d.sz) base hgd s x t e z bytes ho ht hinfo hz hs0 hb0 v [] news A mm c (fun _ => True) (fun _ => False) hs hx HO hnr (fun _ _ hk => hk) (fun _ hk => hk.elim) (fun _ _ => trivial) HB hbase (by rw [List.length_nil, Nat.zero_add]; exact hl) ?_
 intro v1 w1 hr hb hg hat
 refine h v1 w1 (PartS_start (rows := news) hr hnl (fun j y c hy hc => FK_grown (hnf j y c hy hc) hg (fun k hk he => ?_))) hb
 have := R_base HO k he.symm
 omega
end
end Kd
end Go.Proofs.YtgmkgobapeencaaW.PrintWords
namespace Go.Proofs.YtgmkgobapeencaaW.PrintLast
open Go.Proofs.YtgmkgobapeencaaW.PrintWords (Aside0)
def needsOf (md : Region.Mode) (o : Oper) : List Nat := (o.after.toList.filter (fun e => Region.binds md e)).map (fun e => e.on)
def clashOf (md : Region.Mode) (ops : Array Oper) (i : Nat) (oi : Oper) : List Nat := (List.range ops.size).filter fun j => !(j == i) && match ops[j]? with
 | some oj => !(oj.after.any (fun e => Region.binds md e && e.on == i) || oi.apart ops oj)
 | none => false
def rtab (md : Region.Mode) (ops : Array Oper) : Bool × List (List Nat × List Nat) := (Region.noSelect ops, (List.range ops.size).map fun i => match ops[i]? with
 | some o => (needsOf md o, clashOf md ops i o)
 | none => ([], []))
def readyAt (T : List (List Nat × List Nat)) (l : List Bool) (i : Nat) : Bool := !l.getD i true && match T[i]? with
 | some r => r.1.all (fun j => l.getD j false)
 | none => false
def readyT (T : List (List Nat × List Nat)) (l : List Bool) : List Nat := (List.range T.length).filter (readyAt T l)
def freeT (T : List (List Nat × List Nat)) (l : List Bool) (i : Nat) : Bool := match T[i]? with
 | some r => r.2.all (fun j => l.getD j true)
 | none => false
def closedT (T : List (List Nat × List Nat)) (l : List Bool) : Bool := (List.range T.length).all fun j => !l.getD j false || match T[j]? with
 | some r => r.1.all (fun k => l.getD k false)
 | none => true
def reachT (T : List (List Nat × List Nat)) (i : Nat) : Nat → Nat → Bool
 | 0, _ => false
 | fuel + 1, d => match T[d]? with
  | some r => r.1.any fun j => j == i || reachT T i fuel j
  | none => false
def lastT (T : List (List Nat × List Nat)) (l : List Bool) (ds : List Nat) (i : Nat) : Bool := ds.all fun d => l.getD d true || reachT T i T.length d
section
variable {md : Region.Mode} {ops : Array Oper} {T : Bool × List (List Nat × List Nat)} {l l' li lj lk : Array Bool} {ds : List Nat} {i j k : Nat}
theorem gd (l : Array Bool) (j : Nat) (b : Bool) : l.getD j b = l.toList.getD j b := by simp [Array.getD_eq_getD_getElem?, List.getD_eq_getElem?_getD]
theorem needs_all (o : Oper) (p : Nat → Bool) : o.after.all (fun e => !Region.binds md e || p e.on) = (needsOf md o).all p := by
 unfold needsOf
 rw [← Array.all_toList]
 induction o.after.toList with
 | nil => rfl
 | cons e r ih =>
  rw [List.all_cons, ih, List.filter_cons]
  cases h : Region.binds md e <;> simp
theorem needs_any (o : Oper) (p : Nat → Bool) : o.after.any (fun e => Region.binds md e && p e.on) = (needsOf md o).any p := by
 unfold needsOf
 rw [← Array.any_toList]
 induction o.after.toList with
 | nil => rfl
 | cons e r ih =>
  rw [List.any_cons, ih, List.filter_cons]
  cases h : Region.binds md e <;> simp
theorem rtab_length : (rtab md ops).2.length = ops.size := by simp [rtab]
theorem rtab_some {o : Oper} (h : ops[i]? = some o) : (rtab md ops).2[i]? = some (needsOf md o, clashOf md ops i o) := by
 have hi := (Array.getElem?_eq_some_iff.1 h).1
 unfold rtab
 rw [List.getElem?_map, List.getElem?_range hi, Option.map_some, h]
theorem rtab_none (h : ops[i]? = none) : (rtab md ops).2[i]? = none := by
 have hi : ops.size ≤ i := Array.getElem?_eq_none_iff.1 h
 exact List.getElem?_eq_none (by rw [rtab_length]; exact hi)
theorem readyAt_eq : readyAt (rtab md ops).2 l.toList i = (!l.getD i true && ((ops[i]?).map (·.after.all fun e => !Region.binds md e || l.getD e.on false)).getD false) := by
 unfold readyAt
 rw [gd]
 cases h : ops[i]? with
 | none => rw [rtab_none h]; rfl
 | some o =>
  rw [rtab_some h]
  simp only [Option.map_some, Option.getD_some]
  rw [← needs_all]
  simp only [gd]
theorem ready_eq : Region.ready md ops l = readyT (rtab md ops).2 l.toList := by
 unfold Region.ready readyT
 rw [rtab_length]
 refine List.filter_congr (fun i _ => ?_)
 rw [readyAt_eq]
theorem free_eq : Region.free md ops l i = freeT (rtab md ops).2 l.toList i := by
 unfold Region.free freeT
 cases h : ops[i]? with
 | none => rw [rtab_none h]
 | some oi =>
  rw [rtab_some h]
  simp only [clashOf]
  rw [List.all_filter]
  congr 1
  funext j
  rw [gd]
  cases hj : ops[j]? with
  | none => cases (j == i) <;> cases (l.toList.getD j true) <;> simp
  | some oj =>
   cases (j == i) <;> cases (l.toList.getD j true) <;> cases (oj.after.any (fun e => Region.binds md e && e.on == i) || oi.apart ops oj) <;> simp_all
theorem closed_eq : Region.closedB md ops l = closedT (rtab md ops).2 l.toList := by
 unfold Region.closedB closedT
 rw [rtab_length]
 congr 1
 funext j
 rw [gd]
 cases h : ops[j]? with
 | none => rw [rtab_none h]
 | some o =>
  rw [rtab_some h]
  simp only
  rw [← needs_all]
  simp only [gd]
theorem reach_eq : ∀ (fuel d : Nat), Region.reachB md ops i fuel d = reachT (rtab md ops).2 i fuel d
 | 0, _ => rfl
 | fuel + 1, d => by
  unfold Region.reachB reachT
  cases h : ops[d]? with
  | none => rw [rtab_none h]
  | some o =>
   rw [rtab_some h]
   simp only
   rw [← needs_any]
   congr 1
   funext e
   rw [reach_eq fuel]
theorem last_eq : Region.lastB md ops l ds i = lastT (rtab md ops).2 l.toList ds i := by
 unfold Region.lastB lastT
 rw [rtab_length]
 congr 1
 funext d
 rw [gd, reach_eq]
theorem readyAt_mem (h : readyAt T.2 l.toList i = true) (hT : rtab md ops = T) : (Region.ready md ops l).contains i = true := by
 subst hT
 rw [ready_eq]
 unfold readyT
 rw [List.contains_iff_mem, List.mem_filter, List.mem_range]
 refine ⟨?_, h⟩
 unfold readyAt at h
 rw [Bool.and_eq_true] at h
 cases hq : (rtab md ops).2[i]? with
 | none => rw [hq] at h; simp at h
 | some r => exact (List.getElem?_eq_some_iff.1 hq).1
theorem set_of (h : (l.toList.set i true == l'.toList) = true) : (l.setIfInBounds i true == l') = true := by
 rw [beq_iff_eq] at h ⊢
 apply Array.ext'
 rw [Array.toList_setIfInBounds]
 exact h
def anyT (T : Bool × List (List Nat × List Nat)) (l l' : List Bool) (i : Nat) : Bool := T.1 && freeT T.2 l i && readyAt T.2 l i && (l.set i true == l')
theorem any_of (hT : rtab md ops = T) (h : anyT T l.toList l'.toList i = true) : anyB md ops l l' i = true := by
 simp only [anyT, Bool.and_eq_true] at h
 obtain ⟨⟨⟨h1, h2⟩, h3⟩, h4⟩ := h
 have h5 := readyAt_mem h3 hT
 have h6 := set_of h4
 subst hT
 simp only [anyB, Bool.and_eq_true]
 exact ⟨⟨⟨h1, by rw [free_eq]; exact h2⟩, h5⟩, h6⟩
def takeT (T : Bool × List (List Nat × List Nat)) (ds : List Nat) (l l' : List Bool) (i : Nat) : Bool := T.1 && freeT T.2 l i && readyAt T.2 l i && closedT T.2 l && lastT T.2 l ds i && (l.set i true == l')
theorem take_of (hT : rtab md ops = T) (h : takeT T ds l.toList l'.toList i = true) : takeB md ops ds l l' i = true := by
 simp only [takeT, Bool.and_eq_true] at h
 obtain ⟨⟨⟨⟨⟨h1, h2⟩, h3⟩, h4⟩, h5⟩, h6⟩ := h
 have h7 := readyAt_mem h3 hT
 have h8 := set_of h6
 subst hT
 simp only [takeB, Bool.and_eq_true]
 exact ⟨⟨⟨⟨⟨h1, by rw [free_eq]; exact h2⟩, h7⟩, by rw [closed_eq]; exact h4⟩, by rw [last_eq]; exact h5⟩, h8⟩
theorem one_of (hT : rtab md ops = T) (h : (readyT T.2 l.toList == [i] && l.toList.set i true == l'.toList) = true) : readyB md ops l l' i = true := by
 simp only [Bool.and_eq_true] at h
 obtain ⟨h1, h2⟩ := h
 subst hT
 simp only [readyB, Bool.and_eq_true]
 exact ⟨by rw [ready_eq]; exact h1, set_of h2⟩
theorem two_of (hT : rtab md ops = T) (h : (readyT T.2 l.toList == [i, j] && l.toList.set i true == li.toList && l.toList.set j true == lj.toList) = true) : (Region.ready md ops l == [i, j] && l.setIfInBounds i true == li && l.setIfInBounds j true == lj) = true := by
 simp only [Bool.and_eq_true] at h ⊢
 obtain ⟨⟨h1, h2⟩, h3⟩ := h
 subst hT
 exact ⟨⟨by rw [ready_eq]; exact h1, set_of h2⟩, set_of h3⟩
theorem done_of (hT : rtab md ops = T) (h : (readyT T.2 l.toList == []) = true) : (Region.ready md ops l == []) = true := by
 subst hT
 rw [ready_eq]
 exact h
def upM (B : List Nat) (d : Nat) : List Nat → Nat
 | [] => 0
 | n :: r => (2 ^ n ||| (if n < d then B.getD n 0 else 0)) ||| upM B d r
def waitsOk (T : List (List Nat × List Nat)) (B : List Nat) : Bool := (List.range T.length).all fun d => match T[d]? with
 | some r => (B.getD d 0 ||| upM B d r.1) == upM B d r.1
 | none => false
theorem upM_bit {B : List Nat} {d i : Nat} : ∀ {ns : List Nat}, (upM B d ns).testBit i = true → ∃ n ∈ ns, n = i ∨ (n < d ∧ (B.getD n 0).testBit i = true)
 | [], h => by simp [upM] at h
 | n :: r, h => by
  unfold upM at h
  rw [Nat.testBit_or, Nat.testBit_or, Bool.or_eq_true, Bool.or_eq_true] at h
  rcases h with (h | h) | h
  ·
   rw [Nat.testBit_two_pow] at h
   exact ⟨n, List.mem_cons_self, .inl (by simpa using h)⟩
  ·
   by_cases hn : n < d
   ·
    rw [if_pos hn] at h
    exact ⟨n, List.mem_cons_self, .inr ⟨hn, h⟩⟩
   ·
    rw [if_neg hn] at h
    simp at h
  ·
   obtain ⟨m, hm, h2⟩ := upM_bit h
   exact ⟨m, List.mem_cons_of_mem _ hm, h2⟩
theorem reach_bit {T : List (List Nat × List Nat)} {B : List Nat} (hB : waitsOk T B = true) : ∀ (fuel d : Nat), d < fuel → d < T.length → (B.getD d 0).testBit i = true → reachT T i fuel d = true
 | 0, d, h, _, _ => by omega
 | fuel + 1, d, h, hd, hb => by
  have h1 := List.all_eq_true.1 hB d (List.mem_range.2 hd)
  cases hr : T[d]? with
  | none => rw [hr] at h1; simp at h1
  | some r =>
   rw [hr] at h1
   simp only [beq_iff_eq] at h1
   have h2 : (upM B d r.1).testBit i = true := by rw [← h1, Nat.testBit_or, hb, Bool.true_or]
   obtain ⟨n, hn, h3⟩ := upM_bit h2
   unfold reachT
   rw [hr]
   simp only
   rw [List.any_eq_true]
   refine ⟨n, hn, ?_⟩
   rcases h3 with rfl | ⟨h4, h5⟩
   ·
    simp
   ·
    rw [reach_bit hB fuel n (by omega) (by omega) h5, Bool.or_true]
def lastW (T : List (List Nat × List Nat)) (B : List Nat) (l : List Bool) (ds : List Nat) (i : Nat) : Bool := ds.all fun d => l.getD d true || (decide (d < T.length) && (B.getD d 0).testBit i)
def takeW (T : Bool × List (List Nat × List Nat)) (B : List Nat) (ds : List Nat) (l l' : List Bool) (i : Nat) : Bool := T.1 && freeT T.2 l i && readyAt T.2 l i && closedT T.2 l && lastW T.2 B l ds i && (l.set i true == l')
theorem take_ofW {B : List Nat} (hT : rtab md ops = T) (hB : waitsOk T.2 B = true) (h : takeW T B ds l.toList l'.toList i = true) : takeB md ops ds l l' i = true := by
 refine take_of hT ?_
 simp only [takeW, takeT, Bool.and_eq_true] at h ⊢
 obtain ⟨⟨⟨⟨⟨h1, h2⟩, h3⟩, h4⟩, h5⟩, h6⟩ := h
 refine ⟨⟨⟨⟨⟨h1, h2⟩, h3⟩, h4⟩, ?_⟩, h6⟩
 unfold lastW at h5
 unfold lastT
 rw [List.all_eq_true] at h5 ⊢
 intro d hd
 have h7 := h5 d hd
 rw [Bool.or_eq_true, Bool.and_eq_true, decide_eq_true_eq] at h7
 rcases h7 with h7 | ⟨h8, h9⟩
 ·
  rw [h7, Bool.true_or]
 ·
  rw [reach_bit hB _ d h8 h8 h9, Bool.or_true]
theorem with_tabW {P : Program} {Q : Exit → Act → World → Prop} {S : World → Prop} {n : Nat} {a : Act} {w : World} {B : List Nat} (hT : rtab md ops = T) (hB : waitsOk T.2 B = true) (h : Aside0 (rtab md ops = T) → Aside0 (waitsOk T.2 B = true) → wpAnyLast P md ops Q S ds n l a w) : wpAnyLast P md ops Q S ds n l a w := h ⟨hT⟩ ⟨hB⟩
end
def opsIn : Code → Nat → Option (Array Oper)
 | .region id ops _, k => if id == k then some ops else none
 | .seq a b, k => match opsIn a k with
  | some o => some o
  | none => opsIn b k
 | .cond _ a b, k => match opsIn a k with
  | some o => some o
  | none => opsIn b k
 | .block _ c, k => opsIn c k
 | .loop c, k => opsIn c k
 | .scope c, k => opsIn c k
 | .rangeFunc _ _ a b, k => match opsIn a k with
  | some o => some o
  | none => opsIn b k
 | _, _ => none
def opsOf (f : Func) (k : Nat) : Array Oper := ((f.body.bind fun c => opsIn c k)).getD #[]
end Go.Proofs.YtgmkgobapeencaaW.PrintLast
