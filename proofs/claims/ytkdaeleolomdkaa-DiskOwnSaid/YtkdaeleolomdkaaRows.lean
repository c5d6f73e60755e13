/-
  No cell of these rows narrows 'for every input' (looked for: loops, veiled, ifaces, maps, wideKeys, modest, calm, conditions, laid).
  DERIVED. THE GIVEN ROWS OF THIS SEAT. 10 by the template 'for every input the law returns true; each argument reads behind the call as it read before'; 0 by the template 'total and deterministic' (their statements: YtkdaeleolomdkaaTotals.lean).
  GIVEN WITH THE SEED: the statements are not yours to turn. If you find one false, say at which input.
  Laid BY PROGRAM, IN A SANDBOX (cutbox-rows.mjs): the forced cells as the released guide's own fill.sh prints them over the translation 460f1804e93de22c… (all of the seat's roots in one cut). By AI agents, Wed Nov 11 2026. No macro, syntax, notation, axiom, sorry.
-/
import Derived.Test.YtkdaeleolomdkaaChecked
import GoSem.Claim
import GoSem.ClaimJoined
import GoSem.ClaimMapViews
import Derived.JoinedTies
import Derived.KernelRfl
namespace Go.Proofs.Ytkdaeleolomdkaa
/- THE CELL 'sum', in the pinned program and in every row, IS THE sha256 OF THE DUMP (.gsa) THAT YtkdaeleolomdkaaProg.lean LOADS. Nothing in Lean hashes anything: it is a label: what it is worth is what the hold of that sum in a sandbox is worth. -/
noncomputable def Try.pinned : Pinned := { name := "ytkdaeleolomdkaa", sum := "460f1804e93de22c81efd7049af2b13f72529748d57bc68a2caaa17c80160571", checked := Try.checked }
namespace Rows
def none {H : Type} : Left H := { results := [], args := [] }

/-- 'fanlightlaw07.SnapTells': WHATEVER THE INPUT: true; the input reads as it did. -/
def snapTellsSpec : ChangeSpec := { name := "snapTells", fn := fun _ => fun
  | [d1, d2, d3] => { results := [.lit (.bool true)], args := [d1, d2, d3] }
  | _ => none }
def snapTellsRow : OpenClaim := { program := "ytkdaeleolomdkaa", sum := "460f1804e93de22c81efd7049af2b13f72529748d57bc68a2caaa17c80160571", func := "fanlight/fanlightlaw07.SnapTells", spec := "snapTells", apart := false }
def SnapTellsSaid : Prop := snapTellsRow.holds Try.pinned (OpenSpec.ofChange snapTellsSpec)

/-- ITS FALSE NEIGHBOUR: 'it returns false'. Refute it at one input. -/
def snapTellsWrong : ChangeSpec := { name := "snapTells", fn := fun _ => fun
  | [d1, d2, d3] => { results := [.lit (.bool false)], args := [d1, d2, d3] }
  | _ => none }
def SnapTellsWrongFalsely : Prop := snapTellsRow.holds Try.pinned (OpenSpec.ofChange snapTellsWrong)

/-- 'fanlightlaw07.SnapBack': WHATEVER THE INPUT: true; the input reads as it did. -/
def snapBackSpec : ChangeSpec := { name := "snapBack", fn := fun _ => fun
  | [d] => { results := [.lit (.bool true)], args := [d] }
  | _ => none }
def snapBackRow : OpenClaim := { program := "ytkdaeleolomdkaa", sum := "460f1804e93de22c81efd7049af2b13f72529748d57bc68a2caaa17c80160571", func := "fanlight/fanlightlaw07.SnapBack", spec := "snapBack", apart := false }
def SnapBackSaid : Prop := snapBackRow.holds Try.pinned (OpenSpec.ofChange snapBackSpec)

/-- ITS FALSE NEIGHBOUR: 'it returns false'. Refute it at one input. -/
def snapBackWrong : ChangeSpec := { name := "snapBack", fn := fun _ => fun
  | [d] => { results := [.lit (.bool false)], args := [d] }
  | _ => none }
def SnapBackWrongFalsely : Prop := snapBackRow.holds Try.pinned (OpenSpec.ofChange snapBackWrong)

/-- 'fanlightlaw07.SnapTorn': WHATEVER THE INPUT: true; the input reads as it did. -/
def snapTornSpec : ChangeSpec := { name := "snapTorn", fn := fun _ => fun
  | [d1, d2, d3, d4] => { results := [.lit (.bool true)], args := [d1, d2, d3, d4] }
  | _ => none }
def snapTornRow : OpenClaim := { program := "ytkdaeleolomdkaa", sum := "460f1804e93de22c81efd7049af2b13f72529748d57bc68a2caaa17c80160571", func := "fanlight/fanlightlaw07.SnapTorn", spec := "snapTorn", apart := false }
def SnapTornSaid : Prop := snapTornRow.holds Try.pinned (OpenSpec.ofChange snapTornSpec)

/-- ITS FALSE NEIGHBOUR: 'it returns false'. Refute it at one input. -/
def snapTornWrong : ChangeSpec := { name := "snapTorn", fn := fun _ => fun
  | [d1, d2, d3, d4] => { results := [.lit (.bool false)], args := [d1, d2, d3, d4] }
  | _ => none }
def SnapTornWrongFalsely : Prop := snapTornRow.holds Try.pinned (OpenSpec.ofChange snapTornWrong)

/-- 'fanlightlaw07.SnapNewest': WHATEVER THE INPUT: true; the input reads as it did. -/
def snapNewestSpec : ChangeSpec := { name := "snapNewest", fn := fun _ => fun
  | [d1, d2] => { results := [.lit (.bool true)], args := [d1, d2] }
  | _ => none }
def snapNewestRow : OpenClaim := { program := "ytkdaeleolomdkaa", sum := "460f1804e93de22c81efd7049af2b13f72529748d57bc68a2caaa17c80160571", func := "fanlight/fanlightlaw07.SnapNewest", spec := "snapNewest", apart := false }
def SnapNewestSaid : Prop := snapNewestRow.holds Try.pinned (OpenSpec.ofChange snapNewestSpec)

/-- ITS FALSE NEIGHBOUR: 'it returns false'. Refute it at one input. -/
def snapNewestWrong : ChangeSpec := { name := "snapNewest", fn := fun _ => fun
  | [d1, d2] => { results := [.lit (.bool false)], args := [d1, d2] }
  | _ => none }
def SnapNewestWrongFalsely : Prop := snapNewestRow.holds Try.pinned (OpenSpec.ofChange snapNewestWrong)

/-- 'fanlightlaw07.SnapOwn': WHATEVER THE INPUT: true; the input reads as it did. -/
def snapOwnSpec : ChangeSpec := { name := "snapOwn", fn := fun _ => fun
  | [d] => { results := [.lit (.bool true)], args := [d] }
  | _ => none }
def snapOwnRow : OpenClaim := { program := "ytkdaeleolomdkaa", sum := "460f1804e93de22c81efd7049af2b13f72529748d57bc68a2caaa17c80160571", func := "fanlight/fanlightlaw07.SnapOwn", spec := "snapOwn", apart := false }
def SnapOwnSaid : Prop := snapOwnRow.holds Try.pinned (OpenSpec.ofChange snapOwnSpec)

/-- ITS FALSE NEIGHBOUR: 'it returns false'. Refute it at one input. -/
def snapOwnWrong : ChangeSpec := { name := "snapOwn", fn := fun _ => fun
  | [d] => { results := [.lit (.bool false)], args := [d] }
  | _ => none }
def SnapOwnWrongFalsely : Prop := snapOwnRow.holds Try.pinned (OpenSpec.ofChange snapOwnWrong)

/-- 'fanlightlaw05.DiskReads': WHATEVER THE INPUT: true; the input reads as it did. -/
def diskReadsSpec : ChangeSpec := { name := "diskReads", fn := fun _ => fun
  | [d1, d2] => { results := [.lit (.bool true)], args := [d1, d2] }
  | _ => none }
def diskReadsRow : OpenClaim := { program := "ytkdaeleolomdkaa", sum := "460f1804e93de22c81efd7049af2b13f72529748d57bc68a2caaa17c80160571", func := "fanlight/fanlightlaw05.DiskReads", spec := "diskReads", unfollowed := true, recurses := true, apart := false }
def DiskReadsSaid : Prop := diskReadsRow.holds Try.pinned (OpenSpec.ofChange diskReadsSpec)

/-- ITS FALSE NEIGHBOUR: 'it returns false'. Refute it at one input. -/
def diskReadsWrong : ChangeSpec := { name := "diskReads", fn := fun _ => fun
  | [d1, d2] => { results := [.lit (.bool false)], args := [d1, d2] }
  | _ => none }
def DiskReadsWrongFalsely : Prop := diskReadsRow.holds Try.pinned (OpenSpec.ofChange diskReadsWrong)

/-- 'fanlightlaw05.DiskBarrier': WHATEVER THE INPUT: true; the input reads as it did. -/
def diskBarrierSpec : ChangeSpec := { name := "diskBarrier", fn := fun _ => fun
  | [d1, d2] => { results := [.lit (.bool true)], args := [d1, d2] }
  | _ => none }
def diskBarrierRow : OpenClaim := { program := "ytkdaeleolomdkaa", sum := "460f1804e93de22c81efd7049af2b13f72529748d57bc68a2caaa17c80160571", func := "fanlight/fanlightlaw05.DiskBarrier", spec := "diskBarrier", unfollowed := true, recurses := true, apart := false }
def DiskBarrierSaid : Prop := diskBarrierRow.holds Try.pinned (OpenSpec.ofChange diskBarrierSpec)

/-- ITS FALSE NEIGHBOUR: 'it returns false'. Refute it at one input. -/
def diskBarrierWrong : ChangeSpec := { name := "diskBarrier", fn := fun _ => fun
  | [d1, d2] => { results := [.lit (.bool false)], args := [d1, d2] }
  | _ => none }
def DiskBarrierWrongFalsely : Prop := diskBarrierRow.holds Try.pinned (OpenSpec.ofChange diskBarrierWrong)

/-- 'fanlightlaw05.DiskOldOrNew': WHATEVER THE INPUT: true; the input reads as it did. -/
def diskOldOrNewSpec : ChangeSpec := { name := "diskOldOrNew", fn := fun _ => fun
  | [d1, d2] => { results := [.lit (.bool true)], args := [d1, d2] }
  | _ => none }
def diskOldOrNewRow : OpenClaim := { program := "ytkdaeleolomdkaa", sum := "460f1804e93de22c81efd7049af2b13f72529748d57bc68a2caaa17c80160571", func := "fanlight/fanlightlaw05.DiskOldOrNew", spec := "diskOldOrNew", unfollowed := true, recurses := true, apart := false }
def DiskOldOrNewSaid : Prop := diskOldOrNewRow.holds Try.pinned (OpenSpec.ofChange diskOldOrNewSpec)

/-- ITS FALSE NEIGHBOUR: 'it returns false'. Refute it at one input. -/
def diskOldOrNewWrong : ChangeSpec := { name := "diskOldOrNew", fn := fun _ => fun
  | [d1, d2] => { results := [.lit (.bool false)], args := [d1, d2] }
  | _ => none }
def DiskOldOrNewWrongFalsely : Prop := diskOldOrNewRow.holds Try.pinned (OpenSpec.ofChange diskOldOrNewWrong)

/-- 'fanlightlaw05.DiskOwn': WHATEVER THE INPUT: true; the input reads as it did. -/
def diskOwnSpec : ChangeSpec := { name := "diskOwn", fn := fun _ => fun
  | [d1, d2] => { results := [.lit (.bool true)], args := [d1, d2] }
  | _ => none }
def diskOwnRow : OpenClaim := { program := "ytkdaeleolomdkaa", sum := "460f1804e93de22c81efd7049af2b13f72529748d57bc68a2caaa17c80160571", func := "fanlight/fanlightlaw05.DiskOwn", spec := "diskOwn", unfollowed := true, recurses := true, apart := false }
def DiskOwnSaid : Prop := diskOwnRow.holds Try.pinned (OpenSpec.ofChange diskOwnSpec)

/-- ITS FALSE NEIGHBOUR: 'it returns false'. Refute it at one input. -/
def diskOwnWrong : ChangeSpec := { name := "diskOwn", fn := fun _ => fun
  | [d1, d2] => { results := [.lit (.bool false)], args := [d1, d2] }
  | _ => none }
def DiskOwnWrongFalsely : Prop := diskOwnRow.holds Try.pinned (OpenSpec.ofChange diskOwnWrong)

/-- 'fanlightlaw05.DiskRuns': WHATEVER THE INPUT: true; the input reads as it did. -/
def diskRunsSpec : ChangeSpec := { name := "diskRuns", fn := fun _ => fun
  | [d1, d2] => { results := [.lit (.bool true)], args := [d1, d2] }
  | _ => none }
def diskRunsRow : OpenClaim := { program := "ytkdaeleolomdkaa", sum := "460f1804e93de22c81efd7049af2b13f72529748d57bc68a2caaa17c80160571", func := "fanlight/fanlightlaw05.DiskRuns", spec := "diskRuns", unfollowed := true, recurses := true, apart := false }
def DiskRunsSaid : Prop := diskRunsRow.holds Try.pinned (OpenSpec.ofChange diskRunsSpec)

/-- ITS FALSE NEIGHBOUR: 'it returns false'. Refute it at one input. -/
def diskRunsWrong : ChangeSpec := { name := "diskRuns", fn := fun _ => fun
  | [d1, d2] => { results := [.lit (.bool false)], args := [d1, d2] }
  | _ => none }
def DiskRunsWrongFalsely : Prop := diskRunsRow.holds Try.pinned (OpenSpec.ofChange diskRunsWrong)

/- THE SECOND FORM. 'bulk': how many values and letters a reading holds, each counted each time it is reached (what is shared counts as often as it is met; a slice's spare places count too). A statement '..UptoSaid' is the law's where the arguments, and the package variables that the reading takes, are together of bulk at most 1048576: NARROWER than '..Said'. Prove '..Said' where nothing that the law and all that it calls make is longer than what came in: it says more and counts as full. Else prove '..UptoSaid'. A law counts once. -/
mutual
def uptoBulk {H : Type} : DataW H → Nat
  | .lit (.string bytes) => bytes.length + 1
  | .lit _ => 1
  | .nil => 1
  | .ptr d => uptoBulk d + 1
  | .slice elems spare => uptoBulkAll elems + uptoBulkAll spare + 1
  | .agg parts => uptoBulkAll parts + 1
  | .iface _ d => uptoBulk d + 1
  | .map entries => uptoBulkEntries entries + 1
  | .held _ => 1
def uptoBulkAll {H : Type} : List (DataW H) → Nat
  | [] => 0
  | d :: r => uptoBulk d + uptoBulkAll r
def uptoBulkEntries {H : Type} : List (Lit × DataW H) → Nat
  | [] => 0
  | x :: r => uptoBulkEntry x + uptoBulkEntries r
def uptoBulkEntry {H : Type} : Lit × DataW H → Nat
  | (.string bytes, d) => bytes.length + uptoBulk d + 1
  | (_, d) => uptoBulk d + 1
 end
def uptoSmall : (H : Type) → List (DataW H) → Bool := fun _ ds => decide (uptoBulkAll ds ≤ 1048576)
def OpenSpec.upto (s : _root_.Go.ChangeSpec) : _root_.Go.OpenSpec := { _root_.Go.OpenSpec.ofChange s with cond := some uptoSmall }

/-- 'fanlightlaw07.SnapTells', WHERE WHAT IT READS IS OF BULK AT MOST 1048576: true; the input reads as it did. -/
def snapTellsUptoRow : OpenClaim := { program := "ytkdaeleolomdkaa", sum := "460f1804e93de22c81efd7049af2b13f72529748d57bc68a2caaa17c80160571", func := "fanlight/fanlightlaw07.SnapTells", spec := "snapTells", apart := false, narrowed := true }
def SnapTellsUptoSaid : Prop := snapTellsUptoRow.holds Try.pinned (OpenSpec.upto snapTellsSpec)

/-- 'fanlightlaw07.SnapBack', WHERE WHAT IT READS IS OF BULK AT MOST 1048576: true; the input reads as it did. -/
def snapBackUptoRow : OpenClaim := { program := "ytkdaeleolomdkaa", sum := "460f1804e93de22c81efd7049af2b13f72529748d57bc68a2caaa17c80160571", func := "fanlight/fanlightlaw07.SnapBack", spec := "snapBack", apart := false, narrowed := true }
def SnapBackUptoSaid : Prop := snapBackUptoRow.holds Try.pinned (OpenSpec.upto snapBackSpec)

/-- 'fanlightlaw07.SnapTorn', WHERE WHAT IT READS IS OF BULK AT MOST 1048576: true; the input reads as it did. -/
def snapTornUptoRow : OpenClaim := { program := "ytkdaeleolomdkaa", sum := "460f1804e93de22c81efd7049af2b13f72529748d57bc68a2caaa17c80160571", func := "fanlight/fanlightlaw07.SnapTorn", spec := "snapTorn", apart := false, narrowed := true }
def SnapTornUptoSaid : Prop := snapTornUptoRow.holds Try.pinned (OpenSpec.upto snapTornSpec)

/-- 'fanlightlaw07.SnapNewest', WHERE WHAT IT READS IS OF BULK AT MOST 1048576: true; the input reads as it did. -/
def snapNewestUptoRow : OpenClaim := { program := "ytkdaeleolomdkaa", sum := "460f1804e93de22c81efd7049af2b13f72529748d57bc68a2caaa17c80160571", func := "fanlight/fanlightlaw07.SnapNewest", spec := "snapNewest", apart := false, narrowed := true }
def SnapNewestUptoSaid : Prop := snapNewestUptoRow.holds Try.pinned (OpenSpec.upto snapNewestSpec)

/-- 'fanlightlaw07.SnapOwn', WHERE WHAT IT READS IS OF BULK AT MOST 1048576: true; the input reads as it did. -/
def snapOwnUptoRow : OpenClaim := { program := "ytkdaeleolomdkaa", sum := "460f1804e93de22c81efd7049af2b13f72529748d57bc68a2caaa17c80160571", func := "fanlight/fanlightlaw07.SnapOwn", spec := "snapOwn", apart := false, narrowed := true }
def SnapOwnUptoSaid : Prop := snapOwnUptoRow.holds Try.pinned (OpenSpec.upto snapOwnSpec)

/-- 'fanlightlaw05.DiskReads', WHERE WHAT IT READS IS OF BULK AT MOST 1048576: true; the input reads as it did. -/
def diskReadsUptoRow : OpenClaim := { program := "ytkdaeleolomdkaa", sum := "460f1804e93de22c81efd7049af2b13f72529748d57bc68a2caaa17c80160571", func := "fanlight/fanlightlaw05.DiskReads", spec := "diskReads", unfollowed := true, recurses := true, apart := false, narrowed := true }
def DiskReadsUptoSaid : Prop := diskReadsUptoRow.holds Try.pinned (OpenSpec.upto diskReadsSpec)

/-- 'fanlightlaw05.DiskBarrier', WHERE WHAT IT READS IS OF BULK AT MOST 1048576: true; the input reads as it did. -/
def diskBarrierUptoRow : OpenClaim := { program := "ytkdaeleolomdkaa", sum := "460f1804e93de22c81efd7049af2b13f72529748d57bc68a2caaa17c80160571", func := "fanlight/fanlightlaw05.DiskBarrier", spec := "diskBarrier", unfollowed := true, recurses := true, apart := false, narrowed := true }
def DiskBarrierUptoSaid : Prop := diskBarrierUptoRow.holds Try.pinned (OpenSpec.upto diskBarrierSpec)

/-- 'fanlightlaw05.DiskOldOrNew', WHERE WHAT IT READS IS OF BULK AT MOST 1048576: true; the input reads as it did. -/
def diskOldOrNewUptoRow : OpenClaim := { program := "ytkdaeleolomdkaa", sum := "460f1804e93de22c81efd7049af2b13f72529748d57bc68a2caaa17c80160571", func := "fanlight/fanlightlaw05.DiskOldOrNew", spec := "diskOldOrNew", unfollowed := true, recurses := true, apart := false, narrowed := true }
def DiskOldOrNewUptoSaid : Prop := diskOldOrNewUptoRow.holds Try.pinned (OpenSpec.upto diskOldOrNewSpec)

/-- 'fanlightlaw05.DiskOwn', WHERE WHAT IT READS IS OF BULK AT MOST 1048576: true; the input reads as it did. -/
def diskOwnUptoRow : OpenClaim := { program := "ytkdaeleolomdkaa", sum := "460f1804e93de22c81efd7049af2b13f72529748d57bc68a2caaa17c80160571", func := "fanlight/fanlightlaw05.DiskOwn", spec := "diskOwn", unfollowed := true, recurses := true, apart := false, narrowed := true }
def DiskOwnUptoSaid : Prop := diskOwnUptoRow.holds Try.pinned (OpenSpec.upto diskOwnSpec)

/-- 'fanlightlaw05.DiskRuns', WHERE WHAT IT READS IS OF BULK AT MOST 1048576: true; the input reads as it did. -/
def diskRunsUptoRow : OpenClaim := { program := "ytkdaeleolomdkaa", sum := "460f1804e93de22c81efd7049af2b13f72529748d57bc68a2caaa17c80160571", func := "fanlight/fanlightlaw05.DiskRuns", spec := "diskRuns", unfollowed := true, recurses := true, apart := false, narrowed := true }
def DiskRunsUptoSaid : Prop := diskRunsUptoRow.holds Try.pinned (OpenSpec.upto diskRunsSpec)

end Rows
end Go.Proofs.Ytkdaeleolomdkaa
