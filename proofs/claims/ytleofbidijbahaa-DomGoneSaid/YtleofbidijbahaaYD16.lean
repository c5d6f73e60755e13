import Derived.Test.YtleofbidijbahaaYD0
import Derived.Test.YtleofbidijbahaaYD3
import Derived.Test.YtleofbidijbahaaYD11
namespace Go.Proofs.Ytleofbidijbahaa.D
open Go.RowKit Go.Proofs.YtleofbidijbahaaW.PrintWords Go.Proofs.YtleofbidijbahaaW.PrintLast Go.Proofs.YtleofbidijbahaaW.PrintMore
attribute [local go_sem] max2_int min2_int max_two min_two max_three min_three max_four min_four   -- for this text's walks alone
set_option linter.unusedVariables false
set_option linter.unusedSimpArgs false
theorem own_tail {w : World} {base n cap g size o : Nat} {e : TypeId} {xs seg : List Value} (h : w.ownsRow base e size (.slice (some ⟨g, 0, none⟩) n cap) n xs) (ho : n * size ≤ o) (hfit : o + seg.length ≤ cap * size) : (w.setCells g o seg).ownsRow base e size (.slice (some ⟨g, 0, none⟩) n cap) n xs := by
 obtain ⟨h1, h2⟩ := h
 refine ⟨h1, ?_⟩
 rcases h2 with ⟨h2, _⟩ | ⟨g', cap', cur, hv, hb, hh, hnc, hcm, hcs, ht⟩
 ·
  cases h2
 ·
  injection hv with ha _ hc
  injection ha with ha
  injection ha with hg
  subst hg hc
  obtain ⟨cur', h3, h4, h5⟩ := setCells_row seg o w cur hh (by omega)
  refine .inr ⟨g, cap, cur', rfl, hb, h3, hnc, hcm, by omega, ?_⟩
  rw [h5, ← ht, List.append_assoc, List.take_append_of_le_length (by rw [List.length_take, Array.length_toList]; omega), List.take_take, Nat.min_eq_left ho]
theorem R_tail {α : Type} {d : Kd α} {e base n cap g o : Nat} {ok : Nat → Prop} {w : World} {xs : List α} {seg : List Value} (h : d.R e w base ok (.slice (some ⟨g, 0, none⟩) n cap) xs) (ho : n * d.sz ≤ o) (hfit : o + seg.length ≤ cap * d.sz) : d.R e (w.setCells g o seg) base ok (.slice (some ⟨g, 0, none⟩) n cap) xs := by
 have hn := (Kd.R_reads' h).1
 obtain ⟨h0, inner, hown, hr⟩ := h
 subst hn
 refine ⟨h0, inner, own_tail hown ho hfit, hr.imp_ (fun p c hp => Kd.M_step hp (fun k hk _ => setCells_far seg o k (fun he => hk.2 (by rw [he]; simp [Value.ownBlock]))))⟩
theorem grown_cells (w : World) (g o : Nat) (seg : List Value) : w.grownBy (w.setCells g o seg) (some g) := by
 obtain ⟨h1, h2, h3, h4⟩ := setCells_same g seg o w
 exact ⟨h1, h2, h3, by rw [h4]; exact Nat.le_refl _, fun k _ hne => setCells_far seg o k (fun he => hne (by rw [he]))⟩
theorem grown_cell (w : World) (g o : Nat) (u : Value) : w.grownBy (w.setCell ⟨g, o, none⟩ u) (some g) := grown_cells w g o [u]
def Chg (w w' : World) (S : Nat → Prop) : Prop := w'.os = w.os ∧ w'.tape = w.tape ∧ w'.output = w.output ∧ Kept w w' S
theorem Chg.refl (w : World) (S : Nat → Prop) : Chg w w S := ⟨rfl, rfl, rfl, Kept.refl _ _⟩
theorem Chg.of_below {w w' : World} (h : Below w.heap.size w w') (S : Nat → Prop) : Chg w w' S := ⟨h.os, h.tape, h.output, Kept.of_below h S⟩
theorem Chg.then_ {w W W2 : World} {S S2 : Nat → Prop} (h : Chg w W S) (k : Chg W W2 S2) (hs : ∀ k, S2 k → S k ∨ w.heap.size ≤ k) : Chg w W2 S := ⟨k.1.trans h.1, k.2.1.trans h.2.1, k.2.2.1.trans h.2.2.1, h.2.2.2.then_ k.2.2.2 hs⟩
theorem Chg.below {w W W2 : World} {S : Nat → Prop} (h : Chg w W S) (hb : Below W.heap.size W W2) : Chg w W2 S := h.then_ (Chg.of_below hb (fun _ => False)) (fun _ hk => hk.elim)
theorem Chg.grown {w W W2 : World} {S : Nat → Prop} {row : Option Nat} (h : Chg w W S) (hg : W.grownBy W2 row) (hr : ∀ k, row = some k → S k ∨ w.heap.size ≤ k) : Chg w W2 S := ⟨hg.os.trans h.1, hg.tape.trans h.2.1, hg.output.trans h.2.2.1, Kept.of_grown hg h.2.2.2 hr⟩
theorem Chg.mono {w W : World} {S S' : Nat → Prop} (h : Chg w W S) (hs : ∀ k, S k → S' k) : Chg w W S' := ⟨h.1, h.2.1, h.2.2.1, h.2.2.2.mono hs⟩
theorem Chg.to_below {w W : World} {S : Nat → Prop} {base : Nat} (h : Chg w W S) (hS : ∀ k, S k → base ≤ k) (hb : base ≤ w.heap.size) : Below base w W := ⟨h.1, h.2.1, h.2.2.1, h.2.2.2.1, fun i hi => h.2.2.2.2 i (by omega) (fun hk => by have := hS i hk; omega)⟩
theorem Chg.blk {w W : World} {S : Nat → Prop} {g : Nat} {o : Obj} (h : Chg w W S) (hg : w.heap[g]? = some o) (hn : ¬ S g) : W.heap[g]? = some o := blk_kept hg h.2.2.2 hn
theorem Chg.size {w W : World} {S : Nat → Prop} (h : Chg w W S) : w.heap.size ≤ W.heap.size := h.2.2.2.1
structure Disp (W : World) (base g : Nat) (ok : Nat → Prop) (v : Value) (ns : List S63) (r nx : Int) : Prop where
 box : W.heap[g]? = some (.cells #[v, .int .i64 r, .int .i64 nx] 28 (0, 0))
 row : Kd.S k63 63 W base ok v ns
 small : ns.length ≤ 100000
 rises : Rises ns
 gbase : base ≤ g
 away : ¬ ok g
section
variable {W W' : World} {base g n cap b : Nat} {ok ok' : Nat → Prop} {v : Value} {ns : List S63} {r nx : Int} {A : Option Addr} {c : Nat}
theorem Disp.slice_ (h : Disp W base g ok v ns r nx) : ∃ A c, v = .slice A ns.length c := Kd.S_slice h.row
theorem Disp.sees (h : Disp W base g ok (.slice A n c) ns r nx) : Sees W g (.int .i64 r) (.int .i64 nx) A c n ns := by
 obtain ⟨h1, h2, h3⟩ := Kd.S_reads' h.row
 subst h1
 exact ⟨h.box, h3, rfl, h.small, h.rises⟩
theorem Disp.chg {S : Nat → Prop} (h : Disp W base g ok v ns r nx) (hc : Chg W W' S) (hn : ∀ k, ok k → ¬ S k) (hg : ¬ S g) : Disp W' base g ok v ns r nx :=
 ⟨hc.blk h.box hg, Kd.S_step h.row (fun k hk hlt => hc.2.2.2.2 k hlt (hn k hk)), h.small, h.rises, h.gbase, h.away⟩
theorem Disp.below (h : Disp W base g ok v ns r nx) (hb : Below W.heap.size W W') : Disp W' base g ok v ns r nx := h.chg (Chg.of_below hb (fun _ => False)) (fun _ _ h => h) (fun h => h)
theorem Disp.mono (h : Disp W base g ok v ns r nx) (hok : ∀ k, ok k → ok' k) (hg : ¬ ok' g) : Disp W base g ok' v ns r nx := ⟨h.box, Kd.S_mono h.row hok, h.small, h.rises, h.gbase, hg⟩
theorem Disp.bound (h : Disp W base g ok v ns r nx) : Disp W base g (fun k => ok k ∧ k < W.heap.size) v ns r nx := ⟨h.box, Kd.S_mono (Kd.S_bound h.row) (fun _ hk => ⟨hk.1, hk.2.2.1⟩), h.small, h.rises, h.gbase, fun hk => h.away hk.1⟩
theorem S_field {α : Type} {d : Kd α} {e : Nat} {oki okp : Nat → Prop} {c : List Value} {xs : List α} {x' : α} {i : Int} {j : Nat} {seg : List Value} (hH : Kd.H d e W base ok (.slice (some ⟨b, 0, none⟩) n cap) xs i oki c) (h0 : 0 ≤ i) (h1 : i < n) (hj : j + seg.length ≤ d.sz) (hM : d.M W base okp x' (c.take j ++ seg ++ c.drop (j + seg.length))) (hokp : ∀ k, okp k → oki k) : Kd.S d e (W.setCells b (i.toNat * d.sz + j) seg) base ok (.slice (some ⟨b, 0, none⟩) n cap) (xs.set i.toNat x') :=
 (Kd.S_seg (okg := fun _ => False) (Kd.H_mono hH (fun k hk => ⟨hk, fun h => h⟩)) h0 h1 hj hM (fun k hk => .inl (hokp k hk)) (fun _ h => h.elim)).1
end
theorem Disp.elem {W : World} {base g n cap b : Nat} {ok : Nat → Prop} {ns : List S63} {r nx : Int} (h : Disp W base g ok (.slice (some ⟨b, 0, none⟩) n cap) ns r nx) (i : Nat) (hi : i < n) (x : S63) (hx : rd_T63 ns (i : Int) = x) :
  ∃ (oki : Nat → Prop) (A5 : Option Addr) (c5 : Nat) (A6 : Option Addr) (c6 : Nat), Kd.H k63 63 W base ok (.slice (some ⟨b, 0, none⟩) n cap) ns (i : Int) oki [.int .i64 x.f0, .int .i64 x.f1, .string x.f2, .string x.f3, .string x.f4, .slice A5 x.f5.length c5, .slice A6 x.f6.length c6] ∧ Kd.R k68 68 W base oki (.slice A5 x.f5.length c5) x.f5 ∧ Kd.R (Kd.int .i64) 3 W base oki (.slice A6 x.f6.length c6) x.f6 ∧ (∀ k, oki k → ok k ∧ k ≠ b) ∧ (∀ j, W.frozen? ⟨b, i * 7 + j, none⟩ = false) ∧ W.cell? ⟨b, i * 7, none⟩ = some (.int .i64 x.f0) ∧ W.cell? ⟨b, i * 7 + 1, none⟩ = some (.int .i64 x.f1) ∧ W.cell? ⟨b, i * 7 + 2, none⟩ = some (.string x.f2) ∧ W.cell? ⟨b, i * 7 + 3, none⟩ = some (.string x.f3) ∧ W.cell? ⟨b, i * 7 + 4, none⟩ = some (.string x.f4) ∧ W.cell? ⟨b, i * 7 + 5, none⟩ = some (.slice A5 x.f5.length c5) ∧ W.cell? ⟨b, i * 7 + 6, none⟩ = some (.slice A6 x.f6.length c6) := by
 obtain ⟨oki, c, hcl, hM, hcc, hfr, hoki, hH⟩ := Kd.S_elem h.row z63 (i : Int) (by omega) (by omega)
 have hx2 : ns.getD (i : Int).toNat z63 = x := hx
 rw [hx2] at hM
 rw [Int.toNat_natCast] at hcc hfr
 obtain ⟨v5, v6, rfl, h5, h6⟩ := k63_openM hM
 obtain ⟨A5, c5, rfl⟩ := Kd.R_slice h5
 obtain ⟨A6, c6, rfl⟩ := Kd.R_slice h6
 exact ⟨oki, A5, c5, A6, c6, hH, h5, h6, hoki, hfr, hcc 0 _ rfl, hcc 1 _ rfl, hcc 2 _ rfl, hcc 3 _ rfl, hcc 4 _ rfl, hcc 5 _ rfl, hcc 6 _ rfl⟩
theorem Disp.okb {W : World} {base g n cap b : Nat} {ok : Nat → Prop} {ns : List S63} {r nx : Int} (h : Disp W base g ok (.slice (some ⟨b, 0, none⟩) n cap) ns r nx) : ok b := (Kd.S_R h.row).1 b (by simp [Value.ownBlock])
theorem Disp.ne {W : World} {base g n cap b : Nat} {ok : Nat → Prop} {ns : List S63} {r nx : Int} (h : Disp W base g ok (.slice (some ⟨b, 0, none⟩) n cap) ns r nx) : b ≠ g := fun he => h.away (he ▸ h.okb)
theorem rises_set {ns : List S63} (h : Rises ns) (i : Nat) (x : S63) (hx : ∀ hi : i < ns.length, x.f0 = ns[i].f0) : Rises (ns.set i x) := by
 have key : ∀ (j : Nat) (hj : j < ns.length), ((ns.set i x)[j]'(by rw [List.length_set]; exact hj)).f0 = ns[j].f0 := fun j hj => by
  rw [List.getElem_set]
  split
  ·
   rename_i he
   subst he
   exact hx hj
  ·
   rfl
 intro a b ha hb hab
 rw [List.length_set] at ha hb
 rw [key a ha, key b hb]
 exact h a b ha hb hab
theorem rd_lt {ns : List S63} {i : Nat} (h : i < ns.length) : rd_T63 ns (i : Int) = ns[i] := by
 unfold rd_T63
 rw [Int.toNat_natCast, List.getD_eq_getElem?_getD, List.getElem?_eq_getElem h, Option.getD_some]
theorem Disp.put {W W1 : World} {base g n cap b : Nat} {ok oki okp : Nat → Prop} {ns : List S63} {r nx : Int} {c seg : List Value} {x x' : S63} {i j : Nat} (hD : Disp W base g ok (.slice (some ⟨b, 0, none⟩) n cap) ns r nx) (hbox : W1.heap[g]? = W.heap[g]?) (hH : Kd.H k63 63 W1 base ok (.slice (some ⟨b, 0, none⟩) n cap) ns (i : Int) oki c) (hi : i < n) (hj : j + seg.length ≤ 7) (hM : k63.M W1 base okp x' (c.take j ++ seg ++ c.drop (j + seg.length))) (hokp : ∀ k, okp k → oki k) (hx : rd_T63 ns (i : Int) = x) (hx' : x'.f0 = x.f0) :
  Disp (W1.setCells b (i * 7 + j) seg) base g ok (.slice (some ⟨b, 0, none⟩) n cap) (ns.set i x') r nx := by
 have hS := S_field (j := j) (seg := seg) (x' := x') hH (by omega) (by omega) hj hM hokp
 rw [Int.toNat_natCast] at hS
 refine ⟨(setCells_far seg _ g (Ne.symm hD.ne)).trans (hbox.trans hD.box), hS, by rw [List.length_set]; exact hD.small, rises_set hD.rises i _ (fun hi2 => by rw [← rd_lt hi2, hx]; exact hx'), hD.gbase, hD.away⟩
end Go.Proofs.Ytleofbidijbahaa.D
