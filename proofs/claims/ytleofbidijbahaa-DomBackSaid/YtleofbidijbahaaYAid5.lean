/- What the print's words and the walks are, as far as this claim names them. -/
import Derived.Test.YtleofbidijbahaaYWMore
import Derived.Test.YtleofbidijbahaaYAid
import Derived.WalkKit
namespace Go.Proofs.YtleofbidijbahaaW.PrintWords
open Go.RowKit
theorem eB {g : Nat} {o : Obj} {w W : World} (H : Aside0 (w.heap[g]? = some o)) (hb : Below w.heap.size w W := by (with_reducible repeat (first | exact Below.refl _ _ | apply below_alloc | apply pw_below_drewN | apply below_drew1))) : W.heap[g]? = some o := blk_below H.out hb
theorem eK {g : Nat} {o : Obj} {w W : World} (h : w.heap[g]? = some o) (hb : Below w.heap.size w W := by ((with_reducible repeat (first | apply below_alloc | apply pw_below_drewN | apply below_drew1)); exact Below.refl _ _)) : W.heap[g]? = some o := blk_below h hb
theorem eH {b : Nat} {w0 w W : World} (H : Aside0 (Below b w0 w)) (h : Below b w0 w → Below b w0 W := by (intro hh_; repeat (first | (with_reducible first | exact hh_ | apply below_alloc | apply pw_below_drewN | apply below_drew1 | (refine below_set ?_ (Aside0.out ?_); rotate_left; assumption)) | exact hh_))) : Below b w0 W := h H.out
namespace Kd
section
variable {α : Type} {d : Kd α} {e base n : Nat} {ok : Nat → Prop} {w0 w W : World} {v : Value} {xs : List α} {A : Option Addr}
theorem eS (H : Aside0 (Kd.S d e w base ok v xs)) (hb : Below w.heap.size w W := by (with_reducible repeat (first | exact Below.refl _ _ | apply below_alloc | apply pw_below_drewN | apply below_drew1))) : Kd.S d e W base ok v xs := S_below H.out hb
theorem kS (h : Kd.S d e w base ok v xs) (hb : Below w.heap.size w W := by ((with_reducible repeat (first | apply below_alloc | apply pw_below_drewN | apply below_drew1)); exact Below.refl _ _)) : Kd.S d e W base ok v xs := S_below h hb
theorem kC (h : d.C w A n xs) (hb : Below w.heap.size w W := by ((with_reducible repeat (first | apply below_alloc | apply pw_below_drewN | apply below_drew1)); exact Below.refl _ _)) : d.C W A n xs := C_below h hb
theorem eC (H : Aside0 (d.C w0 A n xs)) (HB : Aside0 (Below w0.heap.size w0 w)) (hb : Below w.heap.size w W := by (with_reducible repeat (first | exact Below.refl _ _ | apply below_alloc | apply pw_below_drewN | apply below_drew1))) : d.C W A n xs := C_below (C_below H.out HB.out) hb
end
def PartS {α : Type} (d : Kd α) (e : Nat) (W : World) (base N : Nat) (v : Value) (xs : List α) (m : Nat) : Prop :=
 ∃ (rows : List (List Value)) (f : Nat → Nat), rows.length = xs.length ∧ (raw d.sz).R e W base (fun _ => True) v rows ∧
  ∀ (j : Nat) (x : α) (c : List Value), xs[j]? = some x → rows[j]? = some c → (j < m → d.M W base (fun k => some k ≠ v.ownBlock ∧ f k = j) x c) ∧ (m ≤ j → FK d W (fun k => k < N) x c)
section
variable {α : Type} {d : Kd α} {e base N n cap g m : Nat} {W W1 : World} {v : Value} {xs : List α} {rows : List (List Value)}
theorem PartS_start (hR : (raw d.sz).R e W base (fun _ => True) v rows) (hl : rows.length = xs.length) (hf : ∀ (j : Nat) (x : α) (c : List Value), xs[j]? = some x → rows[j]? = some c → FK d W (fun k => k < N) x c) : PartS d e W base N v xs 0 :=
 ⟨rows, fun _ => 0, hl, hR, fun j x c hx hc => ⟨fun h => by omega, fun _ => hf j x c hx hc⟩⟩
theorem PartS_set {gx t : Nat} {cells : Array Value} (h : PartS d e W base N v xs m) (hb : W.heap[gx]? = some (.cells cells t (0, 0))) (ht : ∀ q, q ∈ e :: d.E → q ≠ t) (hgx : N ≤ gx) (j : Nat) (u : Value) : PartS d e (W.setCell ⟨gx, j, none⟩ u) base N v xs m := by
 obtain ⟨rows, f, hl, hR, hf⟩ := h
 refine ⟨rows, f, hl, R_set hR hb (fun q hq => ht q (by simpa using .inl (by simpa [raw] using hq))) j u, fun i x c hx hc => ⟨fun hi => ?_, fun hi => ?_⟩⟩
 ·
  exact d.M_mono (fun k hk => hk.1) (M_far (p := ⟨gx, j, none⟩) (M_types ((hf i x c hx hc).1 hi) hb (fun q hq => ht q (List.mem_cons_of_mem _ hq))) (fun _ hk => hk.2) u)
 ·
  exact FK_step ((hf i x c hx hc).2 hi) (fun k hk _ => Below.heap_setCell W ⟨gx, j, none⟩ u k (by show k ≠ gx; omega))
theorem PartS_slice (h : PartS d e W base N v xs m) : ∃ A c, v = .slice A xs.length c := by
 obtain ⟨rows, f, hl, hR, hf⟩ := h
 obtain ⟨A, c, he⟩ := R_slice hR
 exact ⟨A, c, by rw [he, hl]⟩
theorem PartS_form (h : PartS d e W base N v xs m) (hp : 0 < xs.length) : ∃ g cap, v = .slice (some ⟨g, 0, none⟩) xs.length cap ∧ base ≤ g ∧ g < W.heap.size ∧ ∃ cells, W.heap[g]? = some (.cells cells e (0, 0)) := by
 obtain ⟨rows, f, hl, hR, _⟩ := h
 rw [← hl] at hp ⊢
 exact R_form hR hp
theorem PartS_cells (h : PartS d e W base N (.slice (some ⟨g, 0, none⟩) n cap) xs m) (i : Nat) (hi : i < xs.length) :
  ∃ c, c.length = d.sz ∧ (∀ j u, c[j]? = some u → W.cell? ⟨g, i * d.sz + j, none⟩ = some u) ∧ (∀ j, W.frozen? ⟨g, i * d.sz + j, none⟩ = false) ∧ (m ≤ i → FK d W (fun k => k < N) xs[i] c) := by
 obtain ⟨rows, f, hl, hR, hf⟩ := h
 have hn := (R_reads' hR).1
 obtain ⟨c, hcl, hM, hcc, hfr⟩ := R_elem hR [] (i : Int) (by omega) (by omega)
 simp only [Int.toNat_natCast] at hcc hfr hM
 have hil : i < rows.length := by omega
 have hc : c = rows[i] := by
  have h2 := hM.1
  rwa [List.getD_eq_getElem?_getD, List.getElem?_eq_getElem hil] at h2
 exact ⟨c, hcl, hcc, hfr, fun hmi => (hf i _ c (List.getElem?_eq_getElem hi) (by rw [hc]; exact List.getElem?_eq_getElem hil)).2 hmi⟩
theorem PartS_store (h : PartS d e W base N (.slice (some ⟨g, 0, none⟩) n cap) xs m) (hm : m < xs.length) (hN : N ≤ base) {c seg : List Value} {j : Nat} (hcl : c.length = d.sz) (hcc : ∀ j u, c[j]? = some u → W.cell? ⟨g, m * d.sz + j, none⟩ = some u)
  (hb : Below W.heap.size W W1) (hj : j + seg.length ≤ d.sz) {okp : Nat → Prop} (hM : d.M W1 base okp xs[m] (c.take j ++ seg ++ c.drop (j + seg.length))) (hokp : ∀ k, okp k → W.heap.size ≤ k) :
  PartS d e (W1.setCells g (m * d.sz + j) seg) base N (.slice (some ⟨g, 0, none⟩) n cap) xs (m + 1) := by
 obtain ⟨rows, f, hl, hR, hf⟩ := h
 have hn := (R_reads' hR).1
 have hgo : some g = (Value.slice (some ⟨g, 0, none⟩) n cap).ownBlock := by simp [Value.ownBlock]
 have hgl := R_lt hR g hgo.symm
 have hgb := R_base hR g hgo.symm
 have hR1 := R_below hR hb
 have hcc1 : ∀ j u, c[j]? = some u → W1.cell? ⟨g, (m : Int).toNat * d.sz + j, none⟩ = some u := fun j u hu => by
  rw [Int.toNat_natCast]
  exact (hb.cell (p := ⟨g, m * d.sz + j, none⟩) hgl).trans (hcc j u hu)
 obtain ⟨h2, h3⟩ := R_seg hR1 (m : Int) (by omega) (by omega) (c := c) (seg := seg) (j := j) (x' := c.take j ++ seg ++ c.drop (j + seg.length)) (okp := fun _ => False) hcl hcc1 hj ⟨rfl, d.K_len (d.K_of_M hM), d.K_one (d.K_of_M hM)⟩ (fun _ hk => hk.elim)
 simp only [Int.toNat_natCast] at h2 h3
 refine ⟨rows.set m (c.take j ++ seg ++ c.drop (j + seg.length)), fun k => if W.heap.size ≤ k then m else f k, by rw [List.length_set, hl], h2, fun i x q hx hq => ?_⟩
 by_cases hi : i = m
 ·
  subst hi
  rw [List.getElem?_set_self (by omega)] at hq
  injection hq with hq
  subst hq
  rw [List.getElem?_eq_getElem hm] at hx
  injection hx with hx
  subst hx
  refine ⟨fun _ => ?_, fun h => by omega⟩
  have := M_grown hM h3 (fun k hk he => by have := hokp k hk; injection he with he; omega)
  refine d.M_mono (fun k hk => ⟨fun he => ?_, ?_⟩) this
  ·
   rw [← hgo] at he; injection he with he; have := hokp k hk; omega
  ·
   show (if W.heap.size ≤ k then _ else f k) = _
   rw [if_pos (hokp k hk)]
 ·
  rw [List.getElem?_set_ne (Ne.symm hi)] at hq
  obtain ⟨f1, f2⟩ := hf i x q hx hq
  refine ⟨fun hlt => ?_, fun hle => ?_⟩
  ·
   have h4 := d.M_bound (f1 (by omega))
   have h5 := M_below h4 hb
   have h6 := M_grown h5 h3 (fun k hk he => hk.1.1 (by rw [he]; exact hgo))
   refine d.M_mono (fun k hk => ⟨hk.1.1, ?_⟩) h6
   have hlt2 := hk.2.2.1
   show (if W.heap.size ≤ k then _ else f k) = _
   rw [if_neg (by omega)]
   exact hk.1.2
  ·
   exact FK_grown (FK_below (f2 (by omega)) hb) h3 (fun k hk he => by injection he with he; omega)
theorem PartS_end (h : PartS d e W base N v xs xs.length) : S d e W base (fun _ => True) v xs := by
 obtain ⟨rows, f, hl, hR, hf⟩ := h
 obtain ⟨h0, inner, hown, hr⟩ := hR
 refine ⟨f, fun _ _ => trivial, inner, by rw [List.length_zipIdx, ← hl]; exact hown, by rw [List.length_zipIdx, ← hl]; exact hr.1, fun j p hj => ?_⟩
 rw [List.getElem?_zipIdx, Nat.zero_add] at hj
 obtain ⟨q, hq, rfl⟩ := Option.map_eq_some_iff.1 hj
 have hjl : j < xs.length := (List.getElem?_eq_some_iff.1 hq).1
 have hc := (hr.2 j _ (List.getElem?_eq_getElem (by omega))).1
 have h1 := (hf j q rows[j] hq (List.getElem?_eq_getElem (by omega))).1 hjl
 show d.M W base _ q ((inner.drop (j * d.sz)).take d.sz)
 have hc' : (inner.drop (j * d.sz)).take d.sz = rows[j] := hc
 rw [hc']
 exact d.M_mono (fun k hk => ⟨⟨trivial, hk.1⟩, hk.2⟩) h1
theorem PartS_append_rows {P : Program} {ops : Array Oper} {rest : List Oper} {o : Oper} {a : Act} {Q : Exit → Act → World → Prop} (d : Kd α) {w0 W : World} (base N : Nat) (hgd : o.guard = none) (s x : Operand) (t e : TypeId) (z : Value) (bytes : Nat)
  (ho : o.op = .call { callee := .builtin .append, args := #[s, x], argTypes := #[t, t] })
  (ht : P.underlying t = some (.slice e)) (hinfo : (P.info? e).map (fun i => (i.zero, i.size, i.bytes)) = some (some z, d.sz, bytes)) (hz : z.cells.size = d.sz) (hs0 : 0 < d.sz) (hb0 : 0 < bytes)
  (v : Value) (ys : List α) (A : Option Addr) (mm c : Nat) (hs : a.eval s = v) (hx : a.eval x = .slice A mm c)
  (HO : (raw d.sz).R e W base (fun _ => True) v []) (HR : F d W (fun k => k < N) A mm ys) (hN : N ≤ base)
  (HB : Below base w0 W) (hbase : base ≤ W.heap.size) (hl : mm * bytes ≤ 140737488355328)
  (h : ∀ v1 w1, PartS d e w1 base N v1 ys 0 → Below base w0 w1 → wpList P ops Q rest (a.put o.dst v1) w1) :
  wpList P ops Q (o :: rest) a W := by
 obtain ⟨news, hnl, hnr, hnf⟩ := reads_raw (F_rows HR) (fun y c hk => ⟨d.K_len (FK_now hk), d.K_one (FK_now hk)⟩)
 refine R_append_rows (raw d.sz) base hgd s x t e z bytes ho ht hinfo hz hs0 hb0 v [] news A mm c (fun _ => True) (fun _ => False) hs hx HO hnr (fun _ _ hk => hk) (fun _ hk => hk.elim) (fun _ _ => trivial) HB hbase (by rw [List.length_nil, Nat.zero_add]; exact hl) ?_
 intro v1 w1 hr hb hg hat
 refine h v1 w1 (PartS_start (rows := news) hr hnl (fun j y c hy hc => FK_grown (hnf j y c hy hc) hg (fun k hk he => ?_))) hb
 have := R_base HO k he.symm
 omega
end
end Kd
end Go.Proofs.YtleofbidijbahaaW.PrintWords
namespace Go
section
variable {P : Program} {ops : Array Oper} {Q : Exit → Act → World → Prop} {l n : Nat} {rest : List Oper} {o : Oper} {a : Act} {W : World}
end
end Go
namespace Go
theorem bytes_leq : ∀ (x y : List UInt8), (Op.bytesLess x y || x == y) = !Op.bytesLess y x
 | [], [] => by simp [Op.bytesLess]
 | _ :: _, [] => by simp [Op.bytesLess]
 | [], _ :: _ => by simp [Op.bytesLess]
 | a :: x, b :: y => by
  have ih := bytes_leq x y
  rw [Op.bytesLess, Op.bytesLess]
  have hlt : ∀ p q : UInt8, p < q ↔ p.toNat < q.toNat := fun p q => UInt8.lt_iff_toNat_lt
  have heq : ∀ p q : UInt8, p = q ↔ p.toNat = q.toNat := fun p q => UInt8.toNat_inj.symm
  rcases Nat.lt_trichotomy a.toNat b.toNat with h | h | h
  ·
   have h0 := (hlt a b).2 h
   have h1 : ¬ b < a := fun h2 => by have := (hlt b a).1 h2; omega
   have h2 : a ≠ b := fun e => by have := (heq a b).1 e; omega
   have h3 : b ≠ a := fun e => h2 e.symm
   simp [h0, h1, h3]
  ·
   have h0 := (heq a b).2 h
   subst h0
   have h1 : ¬ a < a := fun h2 => by have := (hlt a a).1 h2; omega
   simp only [h1]
   simpa using ih
  ·
   have h0 := (hlt b a).2 h
   have h1 : ¬ a < b := fun h2 => by have := (hlt a b).1 h2; omega
   have h2 : a ≠ b := fun e => by have := (heq a b).1 e; omega
   have h3 : b ≠ a := fun e => h2 e.symm
   simp [h0, h1, h2]
end Go
