/- What the print's words and the walks are, as far as this claim names them. -/
import Derived.Test.YtgmkgobapeencaaYAid2
import Derived.Test.YtgmkgobapeencaaYWTab
import Derived.Test.YtgmkgobapeencaaYWLast
namespace Go.Proofs.YtgmkgobapeencaaW.PrintWords
open Go.RowKit
theorem bB {g : Nat} {o : Obj} {w w1 w2 : World} (H : Aside0 (w.heap[g]? = some o)) (hb : Below w1.heap.size w1 w2) (h : Below w.heap.size w w1 := by (with_reducible repeat (first | exact Below.refl _ _ | apply below_alloc | apply pw_below_drewN | apply below_drew1))) : Aside0 (w2.heap[g]? = some o) := ⟨blk_below (blk_below H.out h) hb⟩
theorem nL {g gx : Nat} {o : Obj} {w w1 : World} (hg : gx = w1.heap.size) (H : Aside0 (w.heap[g]? = some o)) (h : Below w.heap.size w w1 := by (with_reducible repeat (first | exact Below.refl _ _ | apply below_alloc | apply pw_below_drewN | apply below_drew1))) : Aside0 (g ≠ gx) := ⟨by rw [hg]; exact Nat.ne_of_lt (blk_lt (blk_below H.out h))⟩
theorem nG {g gx : Nat} {o : Obj} {w w1 : World} (hg : gx = w1.heap.size) (H : Aside0 (w.heap[g]? = some o)) (h : Below w.heap.size w w1 := by (with_reducible repeat (first | exact Below.refl _ _ | apply below_alloc | apply pw_below_drewN | apply below_drew1))) : Aside0 (gx ≠ g) := ⟨by rw [hg]; exact Nat.ne_of_gt (blk_lt (blk_below H.out h))⟩
theorem Kd.cC {α : Type} {d : Kd α} {n : Nat} {w W : World} {xs : List α} {A : Option Addr} (H : Aside0 (d.C w A n xs)) (hb : Below w.heap.size w W := by (with_reducible repeat (first | exact Below.refl _ _ | apply below_alloc | apply pw_below_drewN | apply below_drew1))) : d.C W A n xs := Kd.C_below H.out hb
theorem bC {g : Nat} {w : World} {cs : Array Value} {t : TypeId} (H : Aside0 (w.heap[g]? = some (.cells cs t (0, 0)))) (i : Nat) (v : Value) (h : cs[i]? = some v := by rfl) : w.cell? ⟨g, i, none⟩ = some v := (blk_cell H.out i).trans h
theorem rS {α : Type} {a b : α} (h : a = b := by first | rfl | (simp; done) | (simp [*]; done)) : a = b := h
theorem nS {p : Prop} (h : p := by first | exact Kd.S_nil _ _ _ _ _ | exact Kd.N_nil _ _ _ _ _ | exact Kd.V_nil _ _ _ _ _ | exact Kd.Q_nil _ _ _ _ _ | exact Kd.R_nil _ _ _ _ _) : p := h
end Go.Proofs.YtgmkgobapeencaaW.PrintWords
namespace Go.Proofs.YtgmkgobapeencaaW.PrintLast
open Go.Proofs.YtgmkgobapeencaaW.PrintWords (Aside0)
section
variable {P : Program} {ops : Array Oper} {Q : Exit → Act → World → Prop} {S : World → Prop} {ds : List Nat} {T : Bool × List (List Nat × List Nat)} {B : List Nat}
theorem pP {oi : Oper} {v : Value} {fuel : Nat} {l : Array Bool} {a a' : Act} {w : World} (i : Nat) (N : Tmp) (l' : Array Bool) (HT : Aside0 (rtab .any ops = T)) (hi : ops[i]? = some oi := by rfl) (hN : oi.dst = some N := by rfl) (hc : anyT T l.toList l'.toList i = true := by kernel_rfl)
  (hQ : ∀ c a w, Q (.panic c) (a.put oi.dst v) w → Q (.panic c) a w := by exact fun _ _ _ h => h) (hy : Yields P ops oi v a := by (refine Or.inl ⟨by rfl, ?_⟩; intro w'; go_simp; with_reducible rfl)) (ha : a.put (some N) v = a' := by (simp only [Act.put, List.setIfInBounds_toArray, List.set_cons_zero, List.set_cons_succ, i64_w, i32_w]; rfl))
  (h : wpAnyLast P .any ops Q S ds fuel l' a' w) : wpAnyLast P .any ops Q S ds (fuel + 1) l a w := pure_ l' hi hN (any_of HT.out hc) hQ hy ha h
theorem tP {oi : Oper} {v : Value} {fuel : Nat} {l : Array Bool} {a a' : Act} {w : World} (i : Nat) (N : Tmp) (l' : Array Bool) (HT : Aside0 (rtab .any ops = T)) (HW : Aside0 (waitsOk T.2 B = true)) (hS : S w) (hi : ops[i]? = some oi := by rfl) (hN : oi.dst = some N := by rfl) (hy : YieldsIf P ops S oi v a) (hc : takeW T B ds l.toList l'.toList i = true := by kernel_rfl)
  (hQ : ∀ c a w, Q (.panic c) (a.put oi.dst v) w → Q (.panic c) a w := by exact fun _ _ _ h => h) (ha : a.put (some N) v = a' := by (simp only [Act.put, List.setIfInBounds_toArray, List.set_cons_zero, List.set_cons_succ, i64_w, i32_w]; rfl))
  (h : wpAnyLast P .any ops Q S ds fuel l' a' w) : wpAnyLast P .any ops Q S ds (fuel + 1) l a w := take_ l' hi hN (take_ofW HT.out HW.out hc) hQ hy hS ha h
theorem gL {rest : List Oper} {oi : Oper} {a : Act} {w : World} (N : Tmp) {f : FuncId} {fn : Func} {sa : Array Operand} {ts : Array TypeId} (hf : P.funcs[f]? = some fn) (args : Array Value) (hd : oi.dst = some N := by rfl) (hg : oi.guard = none := by rfl) (hname : (fn.name == "runtime.NumGoroutine") = false := by kernel_rfl) (hb : fn.body.isSome = true := by rfl)
  (hop : oi.op = .call { callee := .value (.func f), args := sa, argTypes := ts } := by rfl) (hargs : sa.map a.eval = args := by ((try simp only [List.map_toArray, List.map_cons, List.map_nil]); first | done | rfl | (simp only [List.length_drop, List.length_take]; rfl)))
  (h : Calls P f args w fun e w' => ∃ v, e = .returned v ∧ wpList P ops Q rest (a.put (some N) v) w') : wpList P ops Q (oi :: rest) a w := goesL_ (some N) hd hg hf hname hb args hop hargs h
theorem uP {a b : Act} (h : a = b := by (simp only [Act.put, List.setIfInBounds_toArray, List.set_cons_zero, List.set_cons_succ, i64_w, i32_w]; rfl)) : a = b := h
end
end Go.Proofs.YtgmkgobapeencaaW.PrintLast
