import Derived.Test.YtkdaeleolomdkaaYWTab
import Derived.Test.YtkdaeleolomdkaaYWEqStruct
import Derived.Test.YtkdaeleolomdkaaYWWords
import Derived.Test.YtkdaeleolomdkaaProg
import Derived.Below
import Derived.Deep.Draws
import Derived.Deep.AppendLies
import Derived.Maps.AppendAt
import Derived.OwnWalk
import Derived.Laws.BytesArg
import Derived.Laws.MakeOwn
import Derived.Laws.OwnMore
import Derived.Deep.OwnRows
import Derived.Tactics
import Derived.Lib.ConvBytes
import Derived.Laws.Slices
import Derived.WalkKit
import Derived.KernelRfl
import Derived.RowKit3
import Derived.Deep.LoopGhost
import Derived.Deep.QuietTactic
import Derived.BigQuiet
import Derived.WideLaws
import Derived.Deep.DeepCutAuto
import Derived.Deep.CutBlock
import Derived.Deep.RegionHeld3
import Derived.Laws.Rows
import Derived.Lib.AppendStr
import Derived.ArgAppend
import Derived.Laws.IdiomCopy
import Derived.OrdersHeld
import Derived.Laws.BitsLemmas
import Derived.RowKit
import Derived.RangeFuncNested
import Derived.RangeFuncBound
import Derived.RangeFuncCalls
import Derived.RangeFuncLeaves
import Derived.RangeFuncBox
import Derived.Shelf.Abstract
import Derived.Shelf.RegionOpen
import Derived.OwnWalkIn
import Derived.TacticsInMore
import Derived.LoopNIn
import Derived.LoopIn
import Derived.Lib.Hide
import Derived.Outline
import Derived.Maps.OwnIn
import Derived.StillTailTactics
import Derived.OrdersIn
import Derived.TacticsIn
import Derived.OpenShut
import Derived.WalkSpells
import Derived.Lib.SlBytesConst
import Derived.Laws.Cover3
import Derived.Laws.BitsAllLaws
import Derived.Test.YtkdaeleolomdkaaYAid
import Derived.Test.YtkdaeleolomdkaaYAid2
import Derived.Test.YtkdaeleolomdkaaYWLast
import Derived.Test.YtkdaeleolomdkaaYWQPut
import Derived.Test.YtkdaeleolomdkaaYWApart
import Derived.Test.YtkdaeleolomdkaaYWKept
import Derived.Test.YtkdaeleolomdkaaYWZeros
import Derived.Test.YtkdaeleolomdkaaYWShare
import Derived.Test.YtkdaeleolomdkaaYWRepsOne
import Derived.Test.YtkdaeleolomdkaaYWMore
namespace Go.Proofs.YtkdaeleolomdkaaW.PrintLast
def up (b : Nat → Bool) (i : Nat) : Nat → Bool := fun j => if j = i then true else b j
section
variable {P : Program} {ops : Array Oper} {Q : Exit → Act → World → Prop} {md : Region.Mode} {T : Bool × List (List Nat × List Nat)} {B : List Nat} {O : List Nat} {b : Nat → Bool} {i j n : Nat}
end
end Go.Proofs.YtkdaeleolomdkaaW.PrintLast
namespace Go.Proofs.YtkdaeleolomdkaaW.PrintWords
open Go.RowKit
end Go.Proofs.YtkdaeleolomdkaaW.PrintWords
namespace Go.Proofs.YtkdaeleolomdkaaW.PrintLast
section
variable {ops : Array Oper} {a : Act} {o og : Oper} {g : Nat} {t : Tmp} {u : Bool}
end
end Go.Proofs.YtkdaeleolomdkaaW.PrintLast
namespace Go.Proofs.YtkdaeleolomdkaaW.PrintWords
open Go.RowKit
section
variable {P : Program} {ops : Array Oper} {rest : List Oper} {o : Oper} {a : Act} {Q : Exit → Act → World → Prop} {W : World}
theorem gate_guard (hw : Region.wanted o (yielded ops a.tmps) = true) (h : wpList P ops Q ({ o with guard := none } :: rest) a W) : wpList P ops Q (o :: rest) a W := by
  have h1 : Region.wanted { o with guard := none } (yielded ops a.tmps) = true := rfl
  unfold wpList at h ⊢
  rw [if_pos h1] at h
  rw [if_pos hw]
  exact h
end
end Go.Proofs.YtkdaeleolomdkaaW.PrintWords
namespace Go.Proofs.Ytkdaeleolomdkaa.V
open Go.RowKit Go.Proofs.YtkdaeleolomdkaaW.PrintWords Go.Proofs.YtkdaeleolomdkaaW.PrintLast Go.Proofs.YtkdaeleolomdkaaW.PrintMore
attribute [local go_sem] max2_int min2_int max_two min_two max_three min_three max_four min_four   -- for this text's walks alone
set_option linter.unusedVariables false
set_option linter.unusedSimpArgs false
def errW : Option Int → Value
  | none => .nilIface
  | some c => .iface 0 (.int .i64 c)
theorem errW_none : errW none = .nilIface := rfl
theorem errW_some (c : Int) : errW (some c) = .iface 0 (.int .i64 c) := rfl
theorem info5 : (Try.prog.info? 5).map (fun i => (i.zero, i.size, i.bytes)) = some (some (.int .u8 0), 1, 1) := by kernel_rfl
structure S80 where
  f0 : Int
  f1 : (List Int)
structure S25 where
  f0 : Int
  f1 : Int
  f2 : (List Int)
structure S24 where
  f0 : Int
  f1 : Int
  f2 : (List Int)
end Go.Proofs.Ytkdaeleolomdkaa.V
