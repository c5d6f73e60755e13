import Derived.Test.YtloocmeckpoflaaGreatYD0
import Derived.Test.YtloocmeckpoflaaGreatYD14
import Derived.Test.YtloocmeckpoflaaGreatYD15
namespace Go.Proofs.YtloocmeckpoflaaGreat.D
open Go.RowKit Go.Proofs.YtloocmeckpoflaaGreatW.PrintWords Go.Proofs.YtloocmeckpoflaaGreatW.PrintLast Go.Proofs.YtloocmeckpoflaaGreatW.PrintMore
attribute [local go_sem] max2_int min2_int max_two min_two max_three min_three max_four min_four   -- for this text's walks alone
set_option linter.unusedVariables false
set_option linter.unusedSimpArgs false
structure But (g : Nat) (W W' : World) : Prop where
 below : Below 0 W W'
 block : ∀ k, k < W.heap.size → k ≠ g → W'.heap[k]? = W.heap[k]?
theorem But.refl (g : Nat) (W : World) : But g W W := ⟨Below.refl _ _, fun _ _ _ => rfl⟩
theorem But.trans {g : Nat} {A B C : World} (h : But g A B) (k : But g B C) : But g A C := ⟨h.below.trans k.below, fun i hi hg => (k.block i (Nat.lt_of_lt_of_le hi h.below.size) hg).trans (h.block i hi hg)⟩
theorem But.of {g : Nat} {W W' : World} (h : Below W.heap.size W W') : But g W W' := ⟨h.mono (Nat.zero_le _), fun k hk _ => h.block k hk⟩
theorem But.set {g : Nat} {W W' : World} (h : But g W W') (i : Nat) (u : Value) : But g W (W'.setCell ⟨g, i, none⟩ u) := ⟨h.below.setCell (Nat.zero_le _) u, fun k hk hg => (Below.heap_setCell W' ⟨g, i, none⟩ u k hg).trans (h.block k hk hg)⟩
theorem But.drew {g : Nat} {W W' : World} (h : But g W W') : But g W W'.drew := ⟨h.below.drew, h.block⟩
theorem But.to_below {g B : Nat} {W W' : World} (h : But g W W') (hg : B ≤ g) (hB : B ≤ W.heap.size) : Below B W W' := ⟨h.below.os, h.below.tape, h.below.output, h.below.size, fun k hk => h.block k (by omega) (by omega)⟩
def StrRow (W : World) (b : Nat) (l : List ByteArray) : Prop := ∃ cs : Array Value, W.heap[b]? = some (.cells cs 9 (0, 0)) ∧ ∀ i, i < l.length → cs[i]? = some (.string (rdOf ByteArray.empty l (i : Int)))
theorem StrRow.of {W : World} {base : Nat} {ok : Nat → Prop} {A : Option Addr} {n c : Nat} {l : List ByteArray} (h : Kd.R Kd.string 9 W base ok (.slice A n c) l) (hl : 0 < l.length) : ∃ b, A = some ⟨b, 0, none⟩ ∧ StrRow W b l ∧ base ≤ b := by
 obtain ⟨b, cap, hv, h1, h2, cs, h3⟩ := Kd.R_form h hl
 cases hv
 refine ⟨b, rfl, ⟨cs, h3, fun i hi => ?_⟩, h1⟩
 have hc := (Kd.R_cell ByteArray.empty h (i : Int) (by omega) (by omega)).1
 rw [Int.toNat_natCast] at hc
 exact (blk_cell h3 i).symm.trans hc
theorem StrRow.C {W : World} {b n : Nat} {l : List ByteArray} (h : StrRow W b l) (hn : l.length = n) (hm : n ≤ 9223372036854775807) : Kd.C Kd.string W (some ⟨b, 0, none⟩) n l := by
 obtain ⟨cs, h1, h2⟩ := h
 refine Kd.C_of_reads (d := ByteArray.empty) ⟨hn, hm, fun _ => ⟨_, rfl, fun i hi => ?_⟩⟩
 rw [add_plain]
 have h := (blk_cell h1 i).trans (h2 i (by omega))
 rw [rdOf, Int.toNat_natCast] at h
 exact h
def RepKept (W W' : World) : Prop := ∀ (b : Nat) (cs : Array Value) (t : TypeId) (fr : Nat × Nat), W.heap[b]? = some (Obj.cells cs t fr) → t ≠ 55 → (t = 5 → fr ≠ (0, 0)) → W'.heap[b]? = some (Obj.cells cs t fr)
theorem RepKept.trans {A B C : World} (h : RepKept A B) (k : RepKept B C) : RepKept A C := fun b cs t fr hb ht hu => k b cs t fr (h b cs t fr hb ht hu) ht hu
theorem RepKept.of {W W' : World} (h : Below W.heap.size W W') : RepKept W W' := fun b cs t fr hb _ _ => (h.block b (Array.getElem?_eq_some_iff.1 hb).1).trans hb
theorem RepKept.but {g : Nat} {W W' : World} {cs : Array Value} (h : But g W W') (hg : W.heap[g]? = some (Obj.cells cs 55 (0, 0))) : RepKept W W' := fun b cs' t' fr hb ht' _ => (h.block b (Array.getElem?_eq_some_iff.1 hb).1 (fun e => by
 rw [e, hg] at hb
 cases hb
 exact ht' rfl)).trans hb
def Built (W : World) (g : Nat) (d l : Int) : Prop :=
 ∃ (s : Int) (tb : Nat) (f : Nat → Value) (ta : Nat) (tc : Nat), W.heap[g]? = some (.cells #[.int .u32 d, .int .i32 l, .int .u32 s, .iface 116 (.pointer (some ⟨tb, 0, none⟩)), .slice none 0 0] 87 (0, 0)) ∧ Tab W tb f (.slice (some ⟨ta, 0, none⟩) 4 tc) ∧ TabOk W f [34, 62, 60, 38] ∧ StrRow W ta [⟨#[34]⟩, ⟨#[62]⟩, ⟨#[60]⟩, ⟨#[38]⟩]
def Rep (W : World) (g : Nat) : Prop :=
 (∃ (s : Int) (ob oc : Nat), W.heap[g]? = some (.cells #[.int .u32 0, .int .i32 0, .int .u32 s, .nilIface, .slice (some ⟨ob, 0, none⟩) 8 oc] 87 (0, 0)) ∧ StrRow W ob rep8) ∨ Built W g 1 0
theorem StrRow.kept {W W' : World} {b : Nat} {l : List ByteArray} (h : StrRow W b l) (hk : RepKept W W') : StrRow W' b l := by
 obtain ⟨cs, h1, h2⟩ := h
 exact ⟨cs, hk _ _ _ _ h1 (by decide) (fun e => by cases e), h2⟩
theorem Tab.kept {W W' : World} {tb : Nat} {f : Nat → Value} {tv : Value} (h : Tab W tb f tv) (hk : RepKept W W') : Tab W' tb f tv := by
 obtain ⟨cs, h1, h2⟩ := h
 exact ⟨cs, hk _ _ _ _ h1 (by decide) (fun e => by cases e), h2⟩
theorem TabOk.kept {W W' : World} {f : Nat → Value} {done : List Nat} (h : TabOk W f done) (hk : RepKept W W') : TabOk W' f done := fun o ho => ⟨fun hd => by
 obtain ⟨b, cap, l, cs, fr, h1, h2, h3, hf, h4, h5⟩ := (h o ho).1 hd
 exact ⟨b, cap, l, cs, fr, h1, h2, h3, hf, hk _ _ _ _ h4 (by decide) (fun _ => hf), h5⟩, (h o ho).2⟩
theorem Built.kept {W W' : World} {g : Nat} {d l : Int} (h : Built W g d l) (hk : RepKept W W') : Built W' g d l := by
 obtain ⟨s, tb, f, ta, tc, h1, h2, h3, h4⟩ := h
 exact ⟨s, tb, f, ta, tc, hk _ _ _ _ h1 (by decide) (fun e => by cases e), h2.kept hk, h3.kept hk, h4.kept hk⟩
theorem Rep.kept {W W' : World} {g : Nat} (h : Rep W g) (hk : RepKept W W') : Rep W' g := by
 rcases h with ⟨s, ob, oc, h1, h2⟩ | h
 ·
  exact Or.inl ⟨s, ob, oc, hk _ _ _ _ h1 (by decide) (fun e => by cases e), h2.kept hk⟩
 ·
  exact Or.inr (h.kept hk)
theorem Tab.but {g : Nat} {W W' : World} {tb : Nat} {f : Nat → Value} {tv : Value} (h : Tab W tb f tv) (hb : But g W W') (hne : tb ≠ g) : Tab W' tb f tv := by
 obtain ⟨cs, h1, h2⟩ := h
 exact ⟨cs, (hb.block tb (blk_lt h1) hne).trans h1, h2⟩
theorem TabOk.but {g : Nat} {W W' : World} {cs : Array Value} {f : Nat → Value} {done : List Nat} (h : TabOk W f done) (hb : But g W W') (hg : W.heap[g]? = some (.cells cs 87 (0, 0))) : TabOk W' f done := h.step (fun b cs' fr h => (hb.block b (Array.getElem?_eq_some_iff.1 h).1 (fun e => by
 rw [e, hg] at h
 cases h)).trans h)
theorem StrRow.but {g : Nat} {W W' : World} {cs : Array Value} {b : Nat} {l : List ByteArray} (h : StrRow W b l) (hb : But g W W') (hg : W.heap[g]? = some (.cells cs 87 (0, 0))) : StrRow W' b l := by
 obtain ⟨cs', h1, h2⟩ := h
 exact ⟨cs', (hb.block b (blk_lt h1) (fun e => by
  rw [e, hg] at h1
  cases h1)).trans h1, h2⟩
set_option maxRecDepth 100000 in
set_option maxHeartbeats 4000000 in
theorem once_is (g : Nat) (d l s : Int) (ob : Nat) (oc : Nat) (w : World) (hg : w.heap[g]? = some (.cells #[.int .u32 d, .int .i32 l, .int .u32 s, .nilIface, .slice (some ⟨ob, 0, none⟩) 8 oc] 87 (0, 0))) (hC : Kd.C Kd.string w (some ⟨ob, 0, none⟩) 8 rep8) :
  Calls Tryz.prog 37 #[.pointer (some ⟨g, 0, none⟩)] w fun e w' => e = .returned (.tuple #[]) ∧ Built w' g d l ∧ But g w w' := by
 have HB := Aside0.mk (build_is g d l s ob oc w hg hC)
 have HG := Aside0.mk hg
 clear hg hC
 go_enter Tryz.func37, Tryz.ntmps37
 go_wp2_with (go_at_call 49; refine HB.out.mono ?_; rintro e w1 ⟨tb, f, TA, tc, rfl, htb, hT, hK, hR, hb⟩; have HT := Aside0.mk hT; have HK := Aside0.mk hK; have HR := Aside0.mk hR; have HBB := Aside0.mk hb; have HTB := Aside0.mk htb; have hg1 := blk_below HG.out hb; have f3 := blk_frozen hg1 3; have f4 := blk_frozen hg1 4; have c3 := blk_cell hg1 3; have c4 := blk_cell hg1 4; have HG1 := Aside0.mk hg1; clear hT hK hR hb htb hg1)
 go_end0
 have hlt := blk_lt HG.out
 have htb := HTB.out
 obtain ⟨ta, rfl, hrow, _⟩ := StrRow.of HR.out (by decide)
 have hbut : But g w1 ((w1.setCell ⟨g, 3, none⟩ (.iface 116 (.pointer (some ⟨tb, 0, none⟩)))).setCell ⟨g, 4, none⟩ (.slice none 0 0)) := ((But.refl g w1).set 3 _).set 4 _
 have h3 := blk_put HG1.out 3 (.iface 116 (.pointer (some ⟨tb, 0, none⟩))) rfl
 have h4 := blk_put h3 4 (.slice none 0 0) rfl
 exact ⟨rfl, ⟨s, tb, f, ta, tc, h4, HT.out.but hbut (by omega), HK.out.but hbut HG1.out, hrow.but hbut HG1.out⟩, (But.of HBB.out).trans hbut⟩
theorem built_cells {W : World} {g : Nat} {d l : Int} (h : Built W g d l) : W.cell? ⟨g, 0, none⟩ = some (.int .u32 d) ∧ W.cell? ⟨g, 1, none⟩ = some (.int .i32 l) ∧ W.frozen? ⟨g, 0, none⟩ = false ∧ W.frozen? ⟨g, 1, none⟩ = false := by
 obtain ⟨s, tb, f, ta, tc, h1, h2, h3, h4⟩ := h
 exact ⟨blk_cell h1 0, blk_cell h1 1, blk_frozen h1 0, blk_frozen h1 1⟩
theorem Built.turn {W : World} {g : Nat} {d l : Int} (h : Built W g d l) (d' l' : Int) : Built ((W.drew.setCell ⟨g, 0, none⟩ (.int .u32 d')).setCell ⟨g, 1, none⟩ (.int .i32 l')) g d' l' := by
 obtain ⟨s, tb, f, ta, tc, h1, h2, h3, h4⟩ := h
 have h1' : W.drew.heap[g]? = some (.cells #[.int .u32 d, .int .i32 l, .int .u32 s, .iface 116 (.pointer (some ⟨tb, 0, none⟩)), .slice none 0 0] 87 (0, 0)) := h1
 have hbut : But g W ((W.drew.setCell ⟨g, 0, none⟩ (.int .u32 d')).setCell ⟨g, 1, none⟩ (.int .i32 l')) := (((But.refl g W).drew).set 0 _).set 1 _
 have h5 := blk_put h1' 0 (.int .u32 d') rfl
 have h6 := blk_put h5 1 (.int .i32 l') rfl
 have hne : tb ≠ g := by
  obtain ⟨cs, hcs, _⟩ := h2
  exact blk_ne hcs h1 (by decide)
 exact ⟨s, tb, f, ta, tc, h6, h2.but hbut hne, h3.but hbut h1, h4.but hbut h1⟩
theorem do_is (g : Nat) (w : World) (hr : Rep w g) : Calls Tryz.prog 36 #[.pointer (some ⟨g, 0, none⟩), .func (.func 37) #[.pointer (some ⟨g, 0, none⟩)] #[]] w fun e w' => e = .returned (.tuple #[]) ∧ Built w' g 1 0 ∧ But g w w' := by
 rcases hr with ⟨s, ob, oc, h1, h2⟩ | h
 ·
  have hb1 : But g w (w.setCell ⟨g, 1, none⟩ (.int .i32 1)) := (But.refl g w).set 1 _
  have h1' := blk_put h1 1 (.int .i32 1) rfl
  have hC := (h2.but hb1 h1).C (n := 8) rfl (by omega)
  refine (on_do g w (fun w' => Built w' g 0 1 ∧ But g w w') (blk_cell h1 0) (blk_cell h1 1) (blk_frozen h1 1) ((once_is g 0 1 s ob oc _ h1' hC).mono ?_) (fun w' hK => built_cells hK.1)).mono ?_
  ·
   rintro e w' ⟨rfl, hB, hbut⟩
   exact ⟨rfl, hB, hb1.trans hbut⟩
  ·
   rintro e w' ⟨rfl, w1, ⟨hB, hbut⟩, rfl⟩
   exact ⟨rfl, hB.turn 1 0, ((hbut.drew).set 0 _).set 1 _⟩
 ·
  refine (on_done ⟨g, 0, none⟩ 1 (by omega) _ w (built_cells h).1).mono ?_
  rintro e w' ⟨rfl, rfl⟩
  exact ⟨rfl, h, But.refl _ _⟩
end Go.Proofs.YtloocmeckpoflaaGreat.D
