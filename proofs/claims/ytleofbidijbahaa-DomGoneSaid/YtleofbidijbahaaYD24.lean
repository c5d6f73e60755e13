import Derived.Test.YtleofbidijbahaaYD0
import Derived.Test.YtleofbidijbahaaYD16
namespace Go.Proofs.Ytleofbidijbahaa.D
open Go.RowKit Go.Proofs.YtleofbidijbahaaW.PrintWords Go.Proofs.YtleofbidijbahaaW.PrintLast Go.Proofs.YtleofbidijbahaaW.PrintMore
attribute [local go_sem] max2_int min2_int max_two min_two max_three min_three max_four min_four   -- for this text's walks alone
set_option linter.unusedVariables false
set_option linter.unusedSimpArgs false
theorem run_clear_cellsN {P : Program} (w : World) (t e ty : TypeId) (z : Value) (ht : P.underlying t = some (.slice e)) (hv : ∀ w, (zeroValue e).run P w = .ok z w) (b o n c : Nat) (hn : 0 < n)
  (hc : ∀ j, j < n * z.cells.size → (w.cell? ⟨b, o + j, none⟩).isSome = true) (hf : ∀ j, j < n * z.cells.size → w.frozen? ⟨b, o + j, none⟩ = false) (h1 : ∀ v ∈ (Builtin.zeroCells z.cells n).toList, v.oneCell' = true) :
  (Builtin.clear_ #[t] ty #[.slice (some ⟨b, o, none⟩) n c]).run P w = .ok (.tuple #[]) (w.setCells b o (Builtin.zeroCells z.cells n).toList) := by
 have hl : (Builtin.zeroCells z.cells n).toList.length = n * z.cells.size := by simp [Builtin.zeroCells]
 have hst := run_storeCells_cells (P := P) b o (Builtin.zeroCells z.cells n).toList 0 w (by rw [hl]; simpa using hc) (by rw [hl]; simpa using hf) h1
 simp only [Nat.add_zero] at hst
 obtain ⟨m, rfl⟩ : ∃ m, n = m + 1 := ⟨n - 1, by omega⟩
 simp [Builtin.clear_, run_underlying ht, hv, hst]
theorem R_delete_stepg {P : Program} {ops : Array Oper} {o : Oper} {a : Act} {Kc : Act → World → Prop} {Q : Exit → Act → World → Prop} {E : Prop} {α : Type} (d : Kd α) {W : World} (base : Nat) (hgd : o.guard = none) (s x : Operand) (t e : TypeId) (ho : o.op = .call { callee := .builtin .append, args := #[s, x], argTypes := #[t, t] })
  (ht : P.underlying t = some (.slice e)) (hinfo : (P.info? e).map (·.size) = some d.sz) {g n c k m c2 : Nat} {A : Option Addr} {xs : List α} {ok : Nat → Prop}
  (hs : a.eval s = .slice (some ⟨g, 0, none⟩) k c) (hx : a.eval x = .slice A m c2) (hA : A = if c = k + 1 then some ⟨g, 0, none⟩ else some ⟨g, (k + 1) * d.sz, none⟩) (hm : m = n - (k + 1))
  (HO : d.R e W base ok (.slice (some ⟨g, 0, none⟩) n c) xs) (hk : k < n) (hbase : base ≤ W.heap.size)
  (h : ∀ w1, d.R e w1 base ok (.slice (some ⟨g, 0, none⟩) (n - 1) c) (xs.eraseIdx k) → W.grownBy w1 (some g) → Kc (a.put o.dst (.slice (some ⟨g, 0, none⟩) (n - 1) c)) w1) :
  if Region.wanted o (yielded ops a.tmps) = true then Oper.wp P o a W Kc Q else E := by
 have hw : Region.wanted o (yielded ops a.tmps) = true := by simp [Region.wanted, hgd]
 have hh := Kd.R_delete_step (P := P) (ops := ops) (o := o) (a := a) (Kc := Kc) (Q := Q) d (w0 := W) base hw s x t e ho ht hinfo hs hx (by rw [hA]; simp [add_plain]) hm HO hk (Below.refl _ _) hbase (fun w1 hr _ hg => h w1 hr hg)
 rw [if_pos hw] at hh ⊢
 exact hh
theorem zero2 : (Builtin.zeroCells (Value.agg #[.string ⟨#[]⟩, .string ⟨#[]⟩]).cells 1).toList = [.string ⟨#[]⟩, .string ⟨#[]⟩] := by kernel_rfl
set_option maxHeartbeats 4000000 in
set_option maxRecDepth 100000 in
theorem delA_is (g n c k : Nat) (xs : List S68) (base : Nat) (ok : Nat → Prop) (w : World) (hR : Kd.R k68 68 w base ok (.slice (some ⟨g, 0, none⟩) n c) xs) (hk : k < n) (hbase : base ≤ w.heap.size) :
  Calls Try.prog 96 #[.slice (some ⟨g, 0, none⟩) n c, .int .i64 k, .int .i64 ((k : Int) + 1)] w fun e w' => e = .returned (.slice (some ⟨g, 0, none⟩) (n - 1) c) ∧ Kd.R k68 68 w' base ok (.slice (some ⟨g, 0, none⟩) (n - 1) c) (xs.eraseIdx k) ∧ w.grownBy w' (some g) := by
 have hrd := Kd.R_reads' hR
 have hnc := hrd.2.1
 have hn := hrd.1
 have hnm : n ≤ 9223372036854775807 := by have := hrd.2.2.2.1; omega
 obtain ⟨inner, ho⟩ := Kd.R_own hR
 have hcm : c ≤ 9223372036854775807 := by
  rcases ho.2 with ⟨h, _⟩ | ⟨g', cap, cur, h, _, _, _, h2, _⟩
  ·
   cases h
  ·
   injection h with _ _ h3
   subst h3
   unfold maxLen at h2
   omega
 have HR := Aside0.mk hR
 have HBASE := Aside0.mk hbase
 have hne : ¬ ((k : Int) = (k : Int) + 1) := by omega
 have hkn : (k : Int) + 1 ≤ (n : Int) := by omega
 have htn : ((k : Int) + 1).toNat = k + 1 := by omega
 clear hR hrd hn ho hbase
 have HW : Aside0 (∀ w1, Kd.R k68 68 w1 base ok (.slice (some ⟨g, 0, none⟩) (n - 1) c) (xs.eraseIdx k) → ∃ w2, (∀ ty sl sc, sl = 1 → (Builtin.clear_ #[48] ty #[.slice (some ⟨g, (n - 1) * 2, none⟩) sl sc]).run Try.prog w1 = .ok (.tuple #[]) w2) ∧ Kd.R k68 68 w2 base ok (.slice (some ⟨g, 0, none⟩) (n - 1) c) (xs.eraseIdx k) ∧ w1.grownBy w2 (some g)) := ⟨fun w1 h1 => by
  obtain ⟨cs, hcs⟩ := Kd.R_typed h1 g (by simp [Value.ownBlock])
  obtain ⟨inner, ho⟩ := Kd.R_own h1
  have hsz : cs.size = c * 2 := by
   rcases ho.2 with ⟨h, _⟩ | ⟨g', cap, cur, h, _, hh, _, _, h2, _⟩
   ·
    cases h
   ·
    injection h with ha _ h3
    injection ha with ha
    injection ha with ha
    subst h3 ha
    rw [hh] at hcs
    injection hcs with hcs
    injection hcs with hcs
    rw [← hcs]; exact h2
  refine ⟨_, fun ty sl sc hsl => ?_, R_tail (o := (n - 1) * 2) (seg := (Builtin.zeroCells (Value.agg #[.string ⟨#[]⟩, .string ⟨#[]⟩]).cells 1).toList) h1 (Nat.le_refl _) (by rw [zero2]; show (n - 1) * 2 + 2 ≤ c * 2; omega), grown_cells w1 g _ _⟩
  subst hsl
  exact run_clear_cellsN w1 48 68 ty (.agg #[.string ⟨#[]⟩, .string ⟨#[]⟩]) Try.underlying48 (fun W => by kernel_rfl) g ((n - 1) * 2) 1 sc (by omega) (fun j hj => by have hj2 : j < 1 * 2 := hj; rw [blk_cell hcs]; rw [Array.getElem?_eq_getElem (by omega)]; rfl) (fun j _ => blk_frozen hcs _) (fun v hv => by
   rw [zero2] at hv
   rcases List.mem_cons.1 hv with rfl | hv
   ·
    rfl
   ·
    rw [List.mem_singleton.1 hv]; rfl)⟩
 have hcn : ¬ c = n - 1 := by omega
 have hn1 : n - (n - 1) = 1 := by omega
 have hb4 : (n : Int) - 1 ≤ (n : Int) := by omega
 have hb5 : ((n - 1 : Nat) : Int) ≤ (n : Int) := by omega
 have hb6 : n ≤ c := hnc
 have hb7 : k ≤ c := by omega
 have hb8 : (k : Int) ≤ (k : Int) + 1 := by omega
 have hb9 : (0 : Int) ≤ (k : Int) + 1 := by omega
 by_cases hck : c = k + 1
 ·
  subst hck
  go_enter Try.func96, Try.ntmps96
  go_wp2_with fail
  go_region_law (refine R_delete_stepg k68 base rfl (.tmp 22) (.tmp 25) 48 68 rfl Try.underlying48 (by kernel_rfl) (g := g) (n := n) (c := k + 1) (k := k) (A := some ⟨g, 0, none⟩) (m := n - (k + 1)) (c2 := 0) (by simp [Act.eval, Act.put]) (by simp [Act.eval, Act.put] <;> omega) (by simp) rfl (Kd.R_drew HR.out) hk HBASE.out ?_; intro w1 ho hg; have HO := Aside0.mk ho; have HG := Aside0.mk (show w.grownBy w1 (some g) from ⟨hg.os, hg.tape, hg.output, hg.size, hg.block⟩); clear ho hg)
  obtain ⟨w2, hcl, hr2, hg2⟩ := HW.out w1 HO.out
  have hcl1 := fun ty sc => hcl ty 1 sc rfl
  have HR2 := Aside0.mk hr2
  have HG2 := Aside0.mk (World.grownBy.trans HG.out hg2)
  clear hcl hr2 hg2
  go_wp2_with fail
  go_ret
  exact ⟨rfl, HR2.out, HG2.out⟩
 ·
  go_enter Try.func96, Try.ntmps96
  go_wp2_with fail
  go_region_law (refine R_delete_stepg k68 base rfl (.tmp 22) (.tmp 25) 48 68 rfl Try.underlying48 (by kernel_rfl) (g := g) (n := n) (c := c) (k := k) (A := some ⟨g, (k + 1) * 2, none⟩) (m := n - (k + 1)) (c2 := c - (k + 1)) (by simp [Act.eval, Act.put]) (by simp [Act.eval, Act.put]) (by rw [if_neg hck]; rfl) rfl (Kd.R_drew HR.out) hk HBASE.out ?_; intro w1 ho hg; have HO := Aside0.mk ho; have HG := Aside0.mk (show w.grownBy w1 (some g) from ⟨hg.os, hg.tape, hg.output, hg.size, hg.block⟩); clear ho hg)
  obtain ⟨w2, hcl, hr2, hg2⟩ := HW.out w1 HO.out
  have hcl1 := fun ty sc => hcl ty 1 sc rfl
  have HR2 := Aside0.mk hr2
  have HG2 := Aside0.mk (World.grownBy.trans HG.out hg2)
  clear hcl hr2 hg2
  go_wp2_with fail
  go_ret
  exact ⟨rfl, HR2.out, HG2.out⟩
end Go.Proofs.Ytleofbidijbahaa.D
