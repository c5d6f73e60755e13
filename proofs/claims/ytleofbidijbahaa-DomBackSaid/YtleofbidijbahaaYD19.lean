import Derived.Test.YtleofbidijbahaaYD0
import Derived.Test.YtleofbidijbahaaYD5
import Derived.Test.YtleofbidijbahaaYD11
namespace Go.Proofs.Ytleofbidijbahaa.D
open Go.RowKit Go.Proofs.YtleofbidijbahaaW.PrintWords Go.Proofs.YtleofbidijbahaaW.PrintLast Go.Proofs.YtleofbidijbahaaW.PrintMore
attribute [local go_sem] max2_int min2_int max_two min_two max_three min_three max_four min_four   -- for this text's walks alone
set_option linter.unusedVariables false
set_option linter.unusedSimpArgs false
theorem own_tail {w : World} {base n cap g size o : Nat} {e : TypeId} {xs seg : List Value} (h : w.ownsRow base e size (.slice (some ⟨g, 0, none⟩) n cap) n xs) (ho : n * size ≤ o) (hfit : o + seg.length ≤ cap * size) : (w.setCells g o seg).ownsRow base e size (.slice (some ⟨g, 0, none⟩) n cap) n xs := by
 obtain ⟨h1, h2⟩ := h
 refine ⟨h1, ?_⟩
 rcases h2 with ⟨h2, _⟩ | ⟨g', cap', cur, hv, hb, hh, hnc, hcm, hcs, ht⟩
 ·
  cases h2
 ·
  injection hv with ha _ hc
  injection ha with ha
  injection ha with hg
  subst hg hc
  obtain ⟨cur', h3, h4, h5⟩ := setCells_row seg o w cur hh (by omega)
  refine .inr ⟨g, cap, cur', rfl, hb, h3, hnc, hcm, by omega, ?_⟩
  rw [h5, ← ht, List.append_assoc, List.take_append_of_le_length (by rw [List.length_take, Array.length_toList]; omega), List.take_take, Nat.min_eq_left ho]
theorem R_tail {α : Type} {d : Kd α} {e base n cap g o : Nat} {ok : Nat → Prop} {w : World} {xs : List α} {seg : List Value} (h : d.R e w base ok (.slice (some ⟨g, 0, none⟩) n cap) xs) (ho : n * d.sz ≤ o) (hfit : o + seg.length ≤ cap * d.sz) : d.R e (w.setCells g o seg) base ok (.slice (some ⟨g, 0, none⟩) n cap) xs := by
 have hn := (Kd.R_reads' h).1
 obtain ⟨h0, inner, hown, hr⟩ := h
 subst hn
 refine ⟨h0, inner, own_tail hown ho hfit, hr.imp_ (fun p c hp => Kd.M_step hp (fun k hk _ => setCells_far seg o k (fun he => hk.2 (by rw [he]; simp [Value.ownBlock]))))⟩
theorem grown_cells (w : World) (g o : Nat) (seg : List Value) : w.grownBy (w.setCells g o seg) (some g) := by
 obtain ⟨h1, h2, h3, h4⟩ := setCells_same g seg o w
 exact ⟨h1, h2, h3, by rw [h4]; exact Nat.le_refl _, fun k _ hne => setCells_far seg o k (fun he => hne (by rw [he]))⟩
theorem grown_cell (w : World) (g o : Nat) (u : Value) : w.grownBy (w.setCell ⟨g, o, none⟩ u) (some g) := grown_cells w g o [u]
def Chg (w w' : World) (S : Nat → Prop) : Prop := w'.os = w.os ∧ w'.tape = w.tape ∧ w'.output = w.output ∧ Kept w w' S
theorem Chg.refl (w : World) (S : Nat → Prop) : Chg w w S := ⟨rfl, rfl, rfl, Kept.refl _ _⟩
theorem Chg.of_below {w w' : World} (h : Below w.heap.size w w') (S : Nat → Prop) : Chg w w' S := ⟨h.os, h.tape, h.output, Kept.of_below h S⟩
theorem Chg.then_ {w W W2 : World} {S S2 : Nat → Prop} (h : Chg w W S) (k : Chg W W2 S2) (hs : ∀ k, S2 k → S k ∨ w.heap.size ≤ k) : Chg w W2 S := ⟨k.1.trans h.1, k.2.1.trans h.2.1, k.2.2.1.trans h.2.2.1, h.2.2.2.then_ k.2.2.2 hs⟩
theorem Chg.below {w W W2 : World} {S : Nat → Prop} (h : Chg w W S) (hb : Below W.heap.size W W2) : Chg w W2 S := h.then_ (Chg.of_below hb (fun _ => False)) (fun _ hk => hk.elim)
theorem Chg.grown {w W W2 : World} {S : Nat → Prop} {row : Option Nat} (h : Chg w W S) (hg : W.grownBy W2 row) (hr : ∀ k, row = some k → S k ∨ w.heap.size ≤ k) : Chg w W2 S := ⟨hg.os.trans h.1, hg.tape.trans h.2.1, hg.output.trans h.2.2.1, Kept.of_grown hg h.2.2.2 hr⟩
theorem Chg.mono {w W : World} {S S' : Nat → Prop} (h : Chg w W S) (hs : ∀ k, S k → S' k) : Chg w W S' := ⟨h.1, h.2.1, h.2.2.1, h.2.2.2.mono hs⟩
theorem Chg.to_below {w W : World} {S : Nat → Prop} {base : Nat} (h : Chg w W S) (hS : ∀ k, S k → base ≤ k) (hb : base ≤ w.heap.size) : Below base w W := ⟨h.1, h.2.1, h.2.2.1, h.2.2.2.1, fun i hi => h.2.2.2.2 i (by omega) (fun hk => by have := hS i hk; omega)⟩
theorem Chg.blk {w W : World} {S : Nat → Prop} {g : Nat} {o : Obj} (h : Chg w W S) (hg : w.heap[g]? = some o) (hn : ¬ S g) : W.heap[g]? = some o := blk_kept hg h.2.2.2 hn
theorem Chg.size {w W : World} {S : Nat → Prop} (h : Chg w W S) : w.heap.size ≤ W.heap.size := h.2.2.2.1
structure Disp (W : World) (base g : Nat) (ok : Nat → Prop) (v : Value) (ns : List S63) (r nx : Int) : Prop where
 box : W.heap[g]? = some (.cells #[v, .int .i64 r, .int .i64 nx] 28 (0, 0))
 row : Kd.S k63 63 W base ok v ns
 small : ns.length ≤ 100000
 rises : Rises ns
 gbase : base ≤ g
 away : ¬ ok g
section
variable {W W' : World} {base g n cap b : Nat} {ok ok' : Nat → Prop} {v : Value} {ns : List S63} {r nx : Int} {A : Option Addr} {c : Nat}
theorem Disp.slice_ (h : Disp W base g ok v ns r nx) : ∃ A c, v = .slice A ns.length c := Kd.S_slice h.row
theorem Disp.sees (h : Disp W base g ok (.slice A n c) ns r nx) : Sees W g (.int .i64 r) (.int .i64 nx) A c n ns := by
 obtain ⟨h1, h2, h3⟩ := Kd.S_reads' h.row
 subst h1
 exact ⟨h.box, h3, rfl, h.small, h.rises⟩
theorem Disp.chg {S : Nat → Prop} (h : Disp W base g ok v ns r nx) (hc : Chg W W' S) (hn : ∀ k, ok k → ¬ S k) (hg : ¬ S g) : Disp W' base g ok v ns r nx :=
 ⟨hc.blk h.box hg, Kd.S_step h.row (fun k hk hlt => hc.2.2.2.2 k hlt (hn k hk)), h.small, h.rises, h.gbase, h.away⟩
theorem Disp.below (h : Disp W base g ok v ns r nx) (hb : Below W.heap.size W W') : Disp W' base g ok v ns r nx := h.chg (Chg.of_below hb (fun _ => False)) (fun _ _ h => h) (fun h => h)
theorem Disp.mono (h : Disp W base g ok v ns r nx) (hok : ∀ k, ok k → ok' k) (hg : ¬ ok' g) : Disp W base g ok' v ns r nx := ⟨h.box, Kd.S_mono h.row hok, h.small, h.rises, h.gbase, hg⟩
theorem Disp.bound (h : Disp W base g ok v ns r nx) : Disp W base g (fun k => ok k ∧ k < W.heap.size) v ns r nx := ⟨h.box, Kd.S_mono (Kd.S_bound h.row) (fun _ hk => ⟨hk.1, hk.2.2.1⟩), h.small, h.rises, h.gbase, fun hk => h.away hk.1⟩
theorem S_field {α : Type} {d : Kd α} {e : Nat} {oki okp : Nat → Prop} {c : List Value} {xs : List α} {x' : α} {i : Int} {j : Nat} {seg : List Value} (hH : Kd.H d e W base ok (.slice (some ⟨b, 0, none⟩) n cap) xs i oki c) (h0 : 0 ≤ i) (h1 : i < n) (hj : j + seg.length ≤ d.sz) (hM : d.M W base okp x' (c.take j ++ seg ++ c.drop (j + seg.length))) (hokp : ∀ k, okp k → oki k) : Kd.S d e (W.setCells b (i.toNat * d.sz + j) seg) base ok (.slice (some ⟨b, 0, none⟩) n cap) (xs.set i.toNat x') :=
 (Kd.S_seg (okg := fun _ => False) (Kd.H_mono hH (fun k hk => ⟨hk, fun h => h⟩)) h0 h1 hj hM (fun k hk => .inl (hokp k hk)) (fun _ h => h.elim)).1
end
theorem Disp.elem {W : World} {base g n cap b : Nat} {ok : Nat → Prop} {ns : List S63} {r nx : Int} (h : Disp W base g ok (.slice (some ⟨b, 0, none⟩) n cap) ns r nx) (i : Nat) (hi : i < n) (x : S63) (hx : rd_T63 ns (i : Int) = x) :
  ∃ (oki : Nat → Prop) (A5 : Option Addr) (c5 : Nat) (A6 : Option Addr) (c6 : Nat), Kd.H k63 63 W base ok (.slice (some ⟨b, 0, none⟩) n cap) ns (i : Int) oki [.int .i64 x.f0, .int .i64 x.f1, .string x.f2, .string x.f3, .string x.f4, .slice A5 x.f5.length c5, .slice A6 x.f6.length c6] ∧ Kd.R k68 68 W base oki (.slice A5 x.f5.length c5) x.f5 ∧ Kd.R (Kd.int .i64) 3 W base oki (.slice A6 x.f6.length c6) x.f6 ∧ (∀ k, oki k → ok k ∧ k ≠ b) ∧ (∀ j, W.frozen? ⟨b, i * 7 + j, none⟩ = false) ∧ W.cell? ⟨b, i * 7, none⟩ = some (.int .i64 x.f0) ∧ W.cell? ⟨b, i * 7 + 1, none⟩ = some (.int .i64 x.f1) ∧ W.cell? ⟨b, i * 7 + 2, none⟩ = some (.string x.f2) ∧ W.cell? ⟨b, i * 7 + 3, none⟩ = some (.string x.f3) ∧ W.cell? ⟨b, i * 7 + 4, none⟩ = some (.string x.f4) ∧ W.cell? ⟨b, i * 7 + 5, none⟩ = some (.slice A5 x.f5.length c5) ∧ W.cell? ⟨b, i * 7 + 6, none⟩ = some (.slice A6 x.f6.length c6) := by
 obtain ⟨oki, c, hcl, hM, hcc, hfr, hoki, hH⟩ := Kd.S_elem h.row z63 (i : Int) (by omega) (by omega)
 have hx2 : ns.getD (i : Int).toNat z63 = x := hx
 rw [hx2] at hM
 rw [Int.toNat_natCast] at hcc hfr
 obtain ⟨v5, v6, rfl, h5, h6⟩ := k63_openM hM
 obtain ⟨A5, c5, rfl⟩ := Kd.R_slice h5
 obtain ⟨A6, c6, rfl⟩ := Kd.R_slice h6
 exact ⟨oki, A5, c5, A6, c6, hH, h5, h6, hoki, hfr, hcc 0 _ rfl, hcc 1 _ rfl, hcc 2 _ rfl, hcc 3 _ rfl, hcc 4 _ rfl, hcc 5 _ rfl, hcc 6 _ rfl⟩
theorem Disp.okb {W : World} {base g n cap b : Nat} {ok : Nat → Prop} {ns : List S63} {r nx : Int} (h : Disp W base g ok (.slice (some ⟨b, 0, none⟩) n cap) ns r nx) : ok b := (Kd.S_R h.row).1 b (by simp [Value.ownBlock])
theorem Disp.ne {W : World} {base g n cap b : Nat} {ok : Nat → Prop} {ns : List S63} {r nx : Int} (h : Disp W base g ok (.slice (some ⟨b, 0, none⟩) n cap) ns r nx) : b ≠ g := fun he => h.away (he ▸ h.okb)
theorem rises_set {ns : List S63} (h : Rises ns) (i : Nat) (x : S63) (hx : ∀ hi : i < ns.length, x.f0 = ns[i].f0) : Rises (ns.set i x) := by
 have key : ∀ (j : Nat) (hj : j < ns.length), ((ns.set i x)[j]'(by rw [List.length_set]; exact hj)).f0 = ns[j].f0 := fun j hj => by
  rw [List.getElem_set]
  split
  ·
   rename_i he
   subst he
   exact hx hj
  ·
   rfl
 intro a b ha hb hab
 rw [List.length_set] at ha hb
 rw [key a ha, key b hb]
 exact h a b ha hb hab
theorem rd_lt {ns : List S63} {i : Nat} (h : i < ns.length) : rd_T63 ns (i : Int) = ns[i] := by
 unfold rd_T63
 rw [Int.toNat_natCast, List.getD_eq_getElem?_getD, List.getElem?_eq_getElem h, Option.getD_some]
theorem Disp.put {W W1 : World} {base g n cap b : Nat} {ok oki okp : Nat → Prop} {ns : List S63} {r nx : Int} {c seg : List Value} {x x' : S63} {i j : Nat} (hD : Disp W base g ok (.slice (some ⟨b, 0, none⟩) n cap) ns r nx) (hbox : W1.heap[g]? = W.heap[g]?) (hH : Kd.H k63 63 W1 base ok (.slice (some ⟨b, 0, none⟩) n cap) ns (i : Int) oki c) (hi : i < n) (hj : j + seg.length ≤ 7) (hM : k63.M W1 base okp x' (c.take j ++ seg ++ c.drop (j + seg.length))) (hokp : ∀ k, okp k → oki k) (hx : rd_T63 ns (i : Int) = x) (hx' : x'.f0 = x.f0) :
  Disp (W1.setCells b (i * 7 + j) seg) base g ok (.slice (some ⟨b, 0, none⟩) n cap) (ns.set i x') r nx := by
 have hS := S_field (j := j) (seg := seg) (x' := x') hH (by omega) (by omega) hj hM hokp
 rw [Int.toNat_natCast] at hS
 refine ⟨(setCells_far seg _ g (Ne.symm hD.ne)).trans (hbox.trans hD.box), hS, by rw [List.length_set]; exact hD.small, rises_set hD.rises i _ (fun hi2 => by rw [← rd_lt hi2, hx]; exact hx'), hD.gbase, hD.away⟩
end Go.Proofs.Ytleofbidijbahaa.D
namespace Go.Proofs.Ytleofbidijbahaa.D
open Go.RowKit Go.Proofs.YtleofbidijbahaaW.PrintWords Go.Proofs.YtleofbidijbahaaW.PrintLast Go.Proofs.YtleofbidijbahaaW.PrintMore
attribute [local go_sem] max2_int min2_int max_two min_two max_three min_three max_four min_four   -- for this text's walks alone
set_option linter.unusedVariables false
set_option linter.unusedSimpArgs false
def ltB (a b : ByteArray) : Bool := Op.bytesLess a.toList b.toList
theorem bytesLess_irr : ∀ (x : List UInt8), Op.bytesLess x x = false
 | [] => rfl
 | a :: r => by simp [Op.bytesLess, bytesLess_irr r]
theorem bytesLess_dec : ∀ (x y : List UInt8), Op.bytesLess x y = decide (x < y)
 | [], [] => by simp [Op.bytesLess]
 | [], b :: s => by simp [Op.bytesLess]
 | a :: r, [] => by simp [Op.bytesLess]
 | a :: r, b :: s => by
  have ih := bytesLess_dec r s
  unfold Op.bytesLess
  rw [ih, Bool.eq_iff_iff]
  simp [List.cons_lt_cons_iff]
theorem ltB_trans {a b c : ByteArray} (h1 : ltB a b = true) (h2 : ltB b c = true) : ltB a c = true := by
 unfold ltB at *
 rw [bytesLess_dec, decide_eq_true_eq] at *
 exact List.lt_trans h1 h2
theorem ltB_irr (a : ByteArray) : ltB a a = false := bytesLess_irr _
theorem ltB_total {a b : ByteArray} (h1 : ltB a b = false) (h2 : a.toList ≠ b.toList) : ltB b a = true := by
 have h := bytes_leq a.toList b.toList
 have h3 : (a.toList == b.toList) = false := beq_eq_false_iff_ne.2 h2
 unfold ltB at *
 rw [h1, h3] at h
 cases hb : Op.bytesLess b.toList a.toList with
 | true => rfl
 | false => rw [hb] at h; cases h
def cmpS (a b : ByteArray) : Int := if ltB a b then -1 else if a.toList = b.toList then 0 else 1
theorem cmpS_lt (a b : ByteArray) : (cmpS a b < 0) ↔ ltB a b = true := by
 unfold cmpS
 split
 ·
  simp_all
 ·
  split <;> simp_all
theorem cmpS_eq (a b : ByteArray) : (cmpS a b = 0) ↔ a.toList = b.toList := by
 unfold cmpS
 split
 ·
  rename_i h
  constructor
  ·
   intro h2; cases h2
  ·
   intro h2
   unfold ltB at h
   rw [h2, bytesLess_irr] at h
   cases h
 ·
  split <;> simp_all
theorem nanS_is (a : ByteArray) (W : World) : Calls Try.prog 128 #[.string a] W fun e w' => e = .returned (.bool false) ∧ W = w' := by
 go_enter Try.func128, Try.ntmps128
 go_wp2_with fail
 go_ret
 exact ⟨by simp, rfl⟩
theorem cmpS_is (a b : ByteArray) (W : World) : Calls Try.prog 115 #[.string a, .string b] W fun e w' => e = .returned (.int .i64 (cmpS a b)) ∧ W = w' := by
 have H1 := Aside0.mk (nanS_is a W)
 have H2 := Aside0.mk (nanS_is b W)
 obtain ⟨R, hR⟩ : ∃ R, cmpS a b = R := ⟨_, rfl⟩
 rw [hR]
 unfold cmpS ltB at hR
 have HR := Lib.hid hR
 clear hR
 go_enter Try.func115, Try.ntmps115
 go_wp2_with fail
 refine H1.out.mono ?_
 rintro e w2 ⟨rfl, rfl⟩
 go_wp2_with fail
 refine H2.out.mono ?_
 rintro e w2 ⟨rfl, rfl⟩
 cases h1 : Op.bytesLess a.toList b.toList with
 | true =>
  have HV : Aside0 (R = -1) := ⟨by rw [← HR.out, if_pos h1]⟩
  go_wp2_with fail
  go_ret
  exact ⟨by rw [HV.out]; rfl, rfl⟩
 | false =>
  by_cases h2 : a.toList = b.toList
  ·
   have h3 : (a.toList == b.toList) = true := beq_iff_eq.2 h2
   have HV : Aside0 (R = 0) := ⟨by rw [← HR.out, if_neg (by rw [h1]; decide), if_pos h2]⟩
   clear h2
   go_wp2_with fail
   go_ret
   exact ⟨by rw [HV.out]; rfl, rfl⟩
  ·
   have h3 : (a.toList == b.toList) = false := beq_eq_false_iff_ne.2 h2
   have HV : Aside0 (R = 1) := ⟨by rw [← HR.out, if_neg (by rw [h1]; decide), if_neg h2]⟩
   clear h2
   go_wp2_with fail
   go_ret
   exact ⟨by rw [HV.out]; rfl, rfl⟩
theorem attr1_is (x : S68) (s : ByteArray) (W : World) : Calls Try.prog 114 #[.agg #[.string x.f0, .string x.f1], .string s] W fun e w' => e = .returned (.int .i64 (cmpS x.f0 s)) ∧ Below W.heap.size W w' := by
 obtain ⟨W1, hW1⟩ : ∃ W1, W.alloc (.cells #[.string x.f0, .string x.f1] 68) = W1 := ⟨_, rfl⟩
 have hb : Below W.heap.size W W1 := by rw [← hW1]; exact below_alloc (Below.refl _ _) _
 have hx : W1.heap[W.heap.size]? = some (.cells #[.string x.f0, .string x.f1] 68 (0, 0)) := by rw [← hW1]; exact World.alloc_heap_new W _
 have y0 : W1.cell? ⟨W.heap.size, 0, none⟩ = some (.string x.f0) := blk_cell hx 0
 have HB := Aside0.mk hb
 have HC := Aside0.mk (cmpS_is x.f0 s W1)
 clear hb hx
 go_enter Try.func114, Try.ntmps114
 go_wp2_with fail
 refine HC.out.mono ?_
 rintro e w2 ⟨rfl, rfl⟩
 go_wp2_with fail
 go_ret
 exact ⟨rfl, HB.out⟩
def RisesA (l : List S68) : Prop := ∀ (i j : Nat) (hi : i < l.length) (hj : j < l.length), i < j → ltB l[i].f0 l[j].f0 = true
def lowA (l : List S68) (id : ByteArray) : Nat := l.countP fun x => ltB x.f0 id
def hasA (l : List S68) (id : ByteArray) : Bool := decide (lowA l id < l.length) && decide ((rd_T68 l (lowA l id : Int)).f0.toList = id.toList)
theorem lowA_at : ∀ (l : List S68) (id : ByteArray) (i : Nat), i ≤ l.length → (∀ (t : Nat) (h : t < l.length), t < i → ltB l[t].f0 id = true) → (∀ (t : Nat) (h : t < l.length), i ≤ t → ltB l[t].f0 id = false) → lowA l id = i
 | [], id, i, hi, _, _ => by
  simp at hi
  subst hi
  rfl
 | a :: r, id, 0, hi, _, h2 => by
  unfold lowA
  rw [List.countP_eq_zero]
  intro x hx
  obtain ⟨t, ht, rfl⟩ := List.getElem_of_mem hx
  have := h2 t ht (Nat.zero_le _)
  rw [this]
  decide
 | a :: r, id, i + 1, hi, h1, h2 => by
  have ha : ltB a.f0 id = true := by simpa using h1 0 (Nat.succ_pos _) (Nat.succ_pos _)
  have h := lowA_at r id i (by simpa using hi) (fun t ht hti => h1 (t + 1) (Nat.succ_lt_succ ht) (by omega)) (fun t ht hti => h2 (t + 1) (Nat.succ_lt_succ ht) (by omega))
  unfold lowA at h ⊢
  simp only [List.countP_cons, ha, if_true, h]
theorem rdA_lt {l : List S68} {i : Nat} (h : i < l.length) : rd_T68 l (i : Int) = l[i] := by
 unfold rd_T68
 rw [Int.toNat_natCast, List.getD_eq_getElem?_getD, List.getElem?_eq_getElem h, Option.getD_some]
set_option maxRecDepth 100000 in
set_option maxHeartbeats 4000000 in
theorem bsfA_is (l : List S68) (A : Option Addr) (c n : Nat) (id : ByteArray) (w : World) (hC : Kd.C k68 w A n l) (hn : l.length = n) (hl : n ≤ 100000) (hs : RisesA l) :
  Calls Try.prog 113 #[.slice A n c, .string id, .func (.func 114) #[] #[]] w fun e w' => e = .returned (.tuple #[.int .i64 (lowA l id : Int), .bool (hasA l id)]) ∧ Below w.heap.size w w' := by
 unfold hasA
 rw [hn]
 have HN := Lib.hid hn
 have HC := Aside0.mk hC
 have HS := Aside0.mk hs
 have HI : Aside0 (∀ (t : Nat) (h : t < l.length), t < 0 → ltB l[t].f0 id = true) := ⟨fun t h h0 => by omega⟩
 have HJ : Aside0 (∀ (t : Nat) (h : t < l.length), n ≤ t → ltB l[t].f0 id = false) := ⟨fun t h h0 => by have := HN.out; omega⟩
 obtain ⟨L, hL⟩ : ∃ L, lowA l id = L := ⟨_, rfl⟩
 rw [hL]
 have HLL := Lib.hid hL
 clear hC hs hn hL
 go_enter Try.func113, Try.ntmps113
 go_wp2_with fail
 go_loopw [9, 10] (fun vi vj wr => ∃ i j : Nat, i ≤ j ∧ j ≤ n ∧ vi = .int .i64 i ∧ vj = .int .i64 j ∧ Aside0 (∀ (t : Nat) (h : t < l.length), t < i → ltB l[t].f0 id = true) ∧ Aside0 (∀ (t : Nat) (h : t < l.length), j ≤ t → ltB l[t].f0 id = false) ∧ Aside0 (Below w.heap.size w wr)) (fun vi vj _ => (intOf vj).toNat - (intOf vi).toNat)
 case atStart => exact ⟨0, n, by omega, by omega, rfl, rfl, HI, HJ, ⟨Below.refl _ _⟩⟩
 case round =>
  obtain ⟨i, j, hij, hjn, rfl, rfl, HI, HJ, HBR⟩ := hrel
  by_cases hlt : i < j
  ·
   obtain ⟨h, hh⟩ : ∃ h : Nat, (i + j) / 2 = h := ⟨_, rfl⟩
   have h1 : i ≤ h := by omega
   have h2 : h < j := by omega
   have hjl : h < l.length := by have := HN.out; omega
   obtain ⟨ad, rfl, e0, e1⟩ := at_T68 (Kd.C_below HC.out HBR.out) (h : Int) (by omega) (by have := HN.out; omega)
   rw [rdA_lt hjl, Int.toNat_natCast] at e0 e1
   have hup : ltB l[h].f0 id = true → ∀ (t : Nat) (ht : t < l.length), t < h + 1 → ltB l[t].f0 id = true := fun hx t ht hth => by
    rcases Nat.lt_or_ge t h with hq | hq
    ·
     exact ltB_trans (HS.out t h ht hjl hq) hx
    ·
     obtain rfl : t = h := by omega
     exact hx
   have hdn : ltB l[h].f0 id = false → ∀ (t : Nat) (ht : t < l.length), h ≤ t → ltB l[t].f0 id = false := fun hx t ht hth => by
    rcases Nat.lt_or_ge h t with hq | hq
    ·
     cases hb : ltB l[t].f0 id with
     | false => rfl
     | true => rw [ltB_trans (HS.out h t hjl ht hq) hb] at hx; cases hx
    ·
     obtain rfl : t = h := by omega
     exact hx
   obtain ⟨x, hxe⟩ : ∃ x, l[h] = x := ⟨_, rfl⟩
   rw [hxe] at e0 e1 hup hdn
   have hcall := attr1_is x id wr
   obtain ⟨q, hq⟩ : ∃ q, cmpS x.f0 id = q := ⟨_, rfl⟩
   rw [hq] at hcall
   have hqlt : (q < 0) ↔ ltB x.f0 id = true := by rw [← hq]; exact cmpS_lt _ _
   have hw1 : IntKind.i64.wrap ((i : Int) + (j : Int)) = ((i + j : Nat) : Int) := by rw [i64_w]; unfold wrap64; omega
   have HW1 := Lib.hid hw1
   have HCALL := Aside0.mk hcall
   have HUP := Aside0.mk hup
   have HDN := Aside0.mk hdn
   have HQ := Aside0.mk hqlt
   have hh2 : ((i : Int) + (j : Int)) / 2 = (h : Int) := by omega
   have HH := Lib.hid hh2
   clear hcall hup hdn hxe hq hqlt hh2
   go_wp2_with fail
   refine HCALL.out.mono ?_
   rintro e w5 ⟨rfl, hb5⟩
   have HB5 := Aside0.mk (HBR.out.trans (hb5.mono HBR.out.size))
   clear hb5 e0 e1 HCALL
   by_cases hq0 : q < 0
   ·
    have d1 : decide (q < 0) = true := decide_eq_true hq0
    have HIN := Aside0.mk (HUP.out (HQ.out.1 hq0))
    clear HUP HDN
    go_wp2_with fail
    exact ⟨⟨h + 1, j, by omega, by omega, congrArg (Value.int .i64) (by rw [HH.out]; omega), rfl, HIN, HJ, HB5⟩, by have := HH.out; simp only [intOf]; omega⟩
   ·
    have d1 : decide (q < 0) = false := decide_eq_false hq0
    have HJN := Aside0.mk (HDN.out (by
     cases hb : ltB x.f0 id with
     | false => rfl
     | true => exact absurd (HQ.out.2 hb) hq0))
    clear HUP HDN
    go_wp2_with fail
    exact ⟨⟨i, h, by omega, by omega, rfl, congrArg (Value.int .i64) (by rw [HH.out]), HI, HJN, HB5⟩, by have := HH.out; simp only [intOf]; omega⟩
  ·
   obtain rfl : i = j := by omega
   have hlow : i = L := (HLL.out.symm.trans (lowA_at l id i (by have := HN.out; omega) HI.out (fun t ht hti => HJ.out t ht hti))).symm
   clear HLL
   subst hlow
   by_cases hin : i < n
   ·
    have d0 : decide (i < n) = true := decide_eq_true hin
    obtain ⟨ad, rfl, e0, e1⟩ := at_T68 (Kd.C_below HC.out HBR.out) (i : Int) (by omega) (by omega)
    rw [Int.toNat_natCast] at e0 e1
    obtain ⟨x, hxe⟩ : ∃ x, rd_T68 l (i : Int) = x := ⟨_, rfl⟩
    have HXE := Lib.hid hxe
    rw [hxe] at e0 e1
    have hcall := attr1_is x id wr
    obtain ⟨q, hq⟩ : ∃ q, cmpS x.f0 id = q := ⟨_, rfl⟩
    rw [hq] at hcall
    have hqe : (q == 0) = decide (x.f0.toList = id.toList) := by rw [Bool.eq_iff_iff, beq_iff_eq, decide_eq_true_eq, ← hq]; exact cmpS_eq _ _
    have HCALL := Aside0.mk hcall
    have HQE := Lib.hid hqe
    clear hcall hxe hq hqe
    go_wp2_with fail
    refine HCALL.out.mono ?_
    rintro e w5 ⟨rfl, hb5⟩
    have HB5 := Aside0.mk (HBR.out.trans (hb5.mono HBR.out.size))
    clear hb5 e0 e1 HCALL
    go_wp2_with fail
    go_ret2
    exact ⟨(show Ending.returned (.tuple #[.int .i64 (i : Int), .bool (q == 0)]) = _ by rw [HXE.out, ← HQE.out, d0, Bool.true_and]), HB5.out⟩
   ·
    have d0 : decide (i < n) = false := decide_eq_false hin
    go_wp2_with fail
    go_ret2
    exact ⟨(show Ending.returned (.tuple #[.int .i64 (i : Int), .bool false]) = _ by rw [d0, Bool.false_and]), HBR.out⟩
theorem attr_is (b o : Nat) (l : List S68) (A : Option Addr) (c n : Nat) (id : ByteArray) (w : World) (hcell : w.cell? ⟨b, o + 5, none⟩ = some (.slice A n c)) (hC : Kd.C k68 w A n l) (hn : l.length = n) (hl : n ≤ 100000) (hs : RisesA l) :
  Calls Try.prog 93 #[.pointer (some ⟨b, o, none⟩), .string id] w fun e w' => e = .returned (.tuple #[.int .i64 (lowA l id : Int), .bool (hasA l id)]) ∧ Below w.heap.size w w' := by
 have HCALL := Aside0.mk (bsfA_is l A c n id w hC hn hl hs)
 clear hC hn hl hs
 go_enter Try.func93, Try.ntmps93
 go_wp2_with fail
 refine HCALL.out.mono ?_
 rintro e w5 ⟨rfl, hb5⟩
 have HB5 := Aside0.mk hb5
 clear hb5 hcell
 go_wp2_with fail
 go_ret2
 exact ⟨rfl, HB5.out⟩
end Go.Proofs.Ytleofbidijbahaa.D
