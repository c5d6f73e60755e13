/- What the print's words and the walks are, as far as this claim names them. -/
import Derived.Test.YtgmkgobapeencaaProg
import Derived.StillTailTactics
import Derived.OrdersIn
import Derived.RangeFuncCalls
import Derived.TacticsIn
import Derived.Laws.Rows
namespace Go.Proofs.Ytgmkgobapeencaa
namespace Crc
def P : BitVec 32 := 3945912366#32
def H (c : BitVec 32) : BitVec 32 := if c.getLsbD 0 then (c >>> 1) ^^^ P else c >>> 1
def HN : Nat → BitVec 32 → BitVec 32
 | 0, c => c
 | n + 1, c => HN n (H c)
end Crc
end Go.Proofs.Ytgmkgobapeencaa
namespace Go
section
variable {P : Program} {ops : Array Oper} {Q : Exit → Act → World → Prop} {md : Region.Mode} {l n : Nat}
end
end Go
namespace Go
theorem heap_setCell_here {W : World} {B : Nat} {t : TypeId} {cs : Array Value} {fr : Nat × Nat} (j : Nat) (v : Value) (h : W.heap[B]? = some (.cells cs t fr)) : (W.setCell ⟨B, j, none⟩ v).heap[B]? = some (.cells (cs.setIfInBounds j v) t fr) := by
 obtain ⟨hlt, hk⟩ := Array.getElem?_eq_some_iff.1 h
 show (W.heap.modify B _)[B]? = _
 rw [Array.getElem?_eq_getElem (by rw [Array.size_modify]; exact hlt), Array.getElem_modify_self, hk]
 rfl
end Go
