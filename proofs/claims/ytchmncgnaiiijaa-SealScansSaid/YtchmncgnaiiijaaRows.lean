/-
  No cell of these rows narrows 'for every input' (looked for: loops, veiled, ifaces, maps, wideKeys, modest, calm, conditions, laid).
  DERIVED. THE GIVEN ROWS OF THIS SEAT. 11 by the template 'for every input the law returns true; each argument reads behind the call as it read before'; 0 by the template 'total and deterministic' (their statements: YtchmncgnaiiijaaTotals.lean).
  GIVEN WITH THE SEED: the statements are not yours to turn. If you find one false, say at which input.
  Laid BY PROGRAM, IN A SANDBOX (cutbox-rows.mjs): the forced cells as the released guide's own fill.sh prints them over the translation 15e3f0aaa9911de4… (all of the seat's roots in one cut). By AI agents, Wed Nov 11 2026. No macro, syntax, notation, axiom, sorry.
-/
import Derived.Test.YtchmncgnaiiijaaChecked
import GoSem.Claim
import GoSem.ClaimJoined
import GoSem.ClaimMapViews
import Derived.JoinedTies
import Derived.KernelRfl
namespace Go.Proofs.Ytchmncgnaiiijaa
/- THE CELL 'sum', in the pinned program and in every row, IS THE sha256 OF THE DUMP (.gsa) THAT YtchmncgnaiiijaaProg.lean LOADS. Nothing in Lean hashes anything: it is a label: what it is worth is what the hold of that sum in a sandbox is worth. -/
noncomputable def Try.pinned : Pinned := { name := "ytchmncgnaiiijaa", sum := "15e3f0aaa9911de4b56d385898670c47f9fd60acf61a55e382b2b37037accf6e", checked := Try.checked }
namespace Rows
def none {H : Type} : Left H := { results := [], args := [] }

/-- 'fanlightlaw11.LisNone': WHATEVER THE INPUT: true; the input reads as it did. -/
def lisNoneSpec : ChangeSpec := { name := "lisNone", fn := fun _ => fun
  | [d1, d2] => { results := [.lit (.bool true)], args := [d1, d2] }
  | _ => none }
def lisNoneRow : OpenClaim := { program := "ytchmncgnaiiijaa", sum := "15e3f0aaa9911de4b56d385898670c47f9fd60acf61a55e382b2b37037accf6e", func := "fanlight/fanlightlaw11.LisNone", spec := "lisNone", unfollowed := true, recurses := true, apart := false }
def LisNoneSaid : Prop := lisNoneRow.holds Try.pinned (OpenSpec.ofChange lisNoneSpec)

/-- ITS FALSE NEIGHBOUR: 'it returns false'. Refute it at one input. -/
def lisNoneWrong : ChangeSpec := { name := "lisNone", fn := fun _ => fun
  | [d1, d2] => { results := [.lit (.bool false)], args := [d1, d2] }
  | _ => none }
def LisNoneWrongFalsely : Prop := lisNoneRow.holds Try.pinned (OpenSpec.ofChange lisNoneWrong)

/-- 'fanlightlaw11.LisMore': WHATEVER THE INPUT: true; the input reads as it did. -/
def lisMoreSpec : ChangeSpec := { name := "lisMore", fn := fun _ => fun
  | [d1, d2] => { results := [.lit (.bool true)], args := [d1, d2] }
  | _ => none }
def lisMoreRow : OpenClaim := { program := "ytchmncgnaiiijaa", sum := "15e3f0aaa9911de4b56d385898670c47f9fd60acf61a55e382b2b37037accf6e", func := "fanlight/fanlightlaw11.LisMore", spec := "lisMore", unfollowed := true, recurses := true, apart := false }
def LisMoreSaid : Prop := lisMoreRow.holds Try.pinned (OpenSpec.ofChange lisMoreSpec)

/-- ITS FALSE NEIGHBOUR: 'it returns false'. Refute it at one input. -/
def lisMoreWrong : ChangeSpec := { name := "lisMore", fn := fun _ => fun
  | [d1, d2] => { results := [.lit (.bool false)], args := [d1, d2] }
  | _ => none }
def LisMoreWrongFalsely : Prop := lisMoreRow.holds Try.pinned (OpenSpec.ofChange lisMoreWrong)

/-- 'fanlightlaw04.SealFinds': WHATEVER THE INPUT: true; the input reads as it did. -/
def sealFindsSpec : ChangeSpec := { name := "sealFinds", fn := fun _ => fun
  | [d1, d2, d3] => { results := [.lit (.bool true)], args := [d1, d2, d3] }
  | _ => none }
def sealFindsRow : OpenClaim := { program := "ytchmncgnaiiijaa", sum := "15e3f0aaa9911de4b56d385898670c47f9fd60acf61a55e382b2b37037accf6e", func := "fanlight/fanlightlaw04.SealFinds", spec := "sealFinds", apart := false }
def SealFindsSaid : Prop := sealFindsRow.holds Try.pinned (OpenSpec.ofChange sealFindsSpec)

/-- ITS FALSE NEIGHBOUR: 'it returns false'. Refute it at one input. -/
def sealFindsWrong : ChangeSpec := { name := "sealFinds", fn := fun _ => fun
  | [d1, d2, d3] => { results := [.lit (.bool false)], args := [d1, d2, d3] }
  | _ => none }
def SealFindsWrongFalsely : Prop := sealFindsRow.holds Try.pinned (OpenSpec.ofChange sealFindsWrong)

/-- 'fanlightlaw04.SealBack': WHATEVER THE INPUT: true; the input reads as it did. -/
def sealBackSpec : ChangeSpec := { name := "sealBack", fn := fun _ => fun
  | [d1, d2] => { results := [.lit (.bool true)], args := [d1, d2] }
  | _ => none }
def sealBackRow : OpenClaim := { program := "ytchmncgnaiiijaa", sum := "15e3f0aaa9911de4b56d385898670c47f9fd60acf61a55e382b2b37037accf6e", func := "fanlight/fanlightlaw04.SealBack", spec := "sealBack", apart := false }
def SealBackSaid : Prop := sealBackRow.holds Try.pinned (OpenSpec.ofChange sealBackSpec)

/-- ITS FALSE NEIGHBOUR: 'it returns false'. Refute it at one input. -/
def sealBackWrong : ChangeSpec := { name := "sealBack", fn := fun _ => fun
  | [d1, d2] => { results := [.lit (.bool false)], args := [d1, d2] }
  | _ => none }
def SealBackWrongFalsely : Prop := sealBackRow.holds Try.pinned (OpenSpec.ofChange sealBackWrong)

/-- 'fanlightlaw04.SealOwn': WHATEVER THE INPUT: true; the input reads as it did. -/
def sealOwnSpec : ChangeSpec := { name := "sealOwn", fn := fun _ => fun
  | [d] => { results := [.lit (.bool true)], args := [d] }
  | _ => none }
def sealOwnRow : OpenClaim := { program := "ytchmncgnaiiijaa", sum := "15e3f0aaa9911de4b56d385898670c47f9fd60acf61a55e382b2b37037accf6e", func := "fanlight/fanlightlaw04.SealOwn", spec := "sealOwn", apart := false }
def SealOwnSaid : Prop := sealOwnRow.holds Try.pinned (OpenSpec.ofChange sealOwnSpec)

/-- ITS FALSE NEIGHBOUR: 'it returns false'. Refute it at one input. -/
def sealOwnWrong : ChangeSpec := { name := "sealOwn", fn := fun _ => fun
  | [d] => { results := [.lit (.bool false)], args := [d] }
  | _ => none }
def SealOwnWrongFalsely : Prop := sealOwnRow.holds Try.pinned (OpenSpec.ofChange sealOwnWrong)

/-- 'fanlightlaw11.LisRises': WHATEVER THE INPUT: true; the input reads as it did. -/
def lisRisesSpec : ChangeSpec := { name := "lisRises", fn := fun _ => fun
  | [d] => { results := [.lit (.bool true)], args := [d] }
  | _ => none }
def lisRisesRow : OpenClaim := { program := "ytchmncgnaiiijaa", sum := "15e3f0aaa9911de4b56d385898670c47f9fd60acf61a55e382b2b37037accf6e", func := "fanlight/fanlightlaw11.LisRises", spec := "lisRises", unfollowed := true, recurses := true, apart := false }
def LisRisesSaid : Prop := lisRisesRow.holds Try.pinned (OpenSpec.ofChange lisRisesSpec)

/-- ITS FALSE NEIGHBOUR: 'it returns false'. Refute it at one input. -/
def lisRisesWrong : ChangeSpec := { name := "lisRises", fn := fun _ => fun
  | [d] => { results := [.lit (.bool false)], args := [d] }
  | _ => none }
def LisRisesWrongFalsely : Prop := lisRisesRow.holds Try.pinned (OpenSpec.ofChange lisRisesWrong)

/-- 'fanlightlaw11.LisMoved': WHATEVER THE INPUT: true; the input reads as it did. -/
def lisMovedSpec : ChangeSpec := { name := "lisMoved", fn := fun _ => fun
  | [d] => { results := [.lit (.bool true)], args := [d] }
  | _ => none }
def lisMovedRow : OpenClaim := { program := "ytchmncgnaiiijaa", sum := "15e3f0aaa9911de4b56d385898670c47f9fd60acf61a55e382b2b37037accf6e", func := "fanlight/fanlightlaw11.LisMoved", spec := "lisMoved", unfollowed := true, recurses := true, apart := false }
def LisMovedSaid : Prop := lisMovedRow.holds Try.pinned (OpenSpec.ofChange lisMovedSpec)

/-- ITS FALSE NEIGHBOUR: 'it returns false'. Refute it at one input. -/
def lisMovedWrong : ChangeSpec := { name := "lisMoved", fn := fun _ => fun
  | [d] => { results := [.lit (.bool false)], args := [d] }
  | _ => none }
def LisMovedWrongFalsely : Prop := lisMovedRow.holds Try.pinned (OpenSpec.ofChange lisMovedWrong)

/-- 'fanlightlaw11.LisMoves': WHATEVER THE INPUT: true; the input reads as it did. -/
def lisMovesSpec : ChangeSpec := { name := "lisMoves", fn := fun _ => fun
  | [d1, d2, d3] => { results := [.lit (.bool true)], args := [d1, d2, d3] }
  | _ => none }
def lisMovesRow : OpenClaim := { program := "ytchmncgnaiiijaa", sum := "15e3f0aaa9911de4b56d385898670c47f9fd60acf61a55e382b2b37037accf6e", func := "fanlight/fanlightlaw11.LisMoves", spec := "lisMoves", unfollowed := true, recurses := true, apart := false }
def LisMovesSaid : Prop := lisMovesRow.holds Try.pinned (OpenSpec.ofChange lisMovesSpec)

/-- ITS FALSE NEIGHBOUR: 'it returns false'. Refute it at one input. -/
def lisMovesWrong : ChangeSpec := { name := "lisMoves", fn := fun _ => fun
  | [d1, d2, d3] => { results := [.lit (.bool false)], args := [d1, d2, d3] }
  | _ => none }
def LisMovesWrongFalsely : Prop := lisMovesRow.holds Try.pinned (OpenSpec.ofChange lisMovesWrong)

/-- 'fanlightlaw11.LisTells': WHATEVER THE INPUT: true; the input reads as it did. -/
def lisTellsSpec : ChangeSpec := { name := "lisTells", fn := fun _ => fun
  | [d] => { results := [.lit (.bool true)], args := [d] }
  | _ => none }
def lisTellsRow : OpenClaim := { program := "ytchmncgnaiiijaa", sum := "15e3f0aaa9911de4b56d385898670c47f9fd60acf61a55e382b2b37037accf6e", func := "fanlight/fanlightlaw11.LisTells", spec := "lisTells", unfollowed := true, recurses := true, apart := false }
def LisTellsSaid : Prop := lisTellsRow.holds Try.pinned (OpenSpec.ofChange lisTellsSpec)

/-- ITS FALSE NEIGHBOUR: 'it returns false'. Refute it at one input. -/
def lisTellsWrong : ChangeSpec := { name := "lisTells", fn := fun _ => fun
  | [d] => { results := [.lit (.bool false)], args := [d] }
  | _ => none }
def LisTellsWrongFalsely : Prop := lisTellsRow.holds Try.pinned (OpenSpec.ofChange lisTellsWrong)

/-- 'fanlightlaw04.SealTells': WHATEVER THE INPUT: true; the input reads as it did. -/
def sealTellsSpec : ChangeSpec := { name := "sealTells", fn := fun _ => fun
  | [d1, d2] => { results := [.lit (.bool true)], args := [d1, d2] }
  | _ => none }
def sealTellsRow : OpenClaim := { program := "ytchmncgnaiiijaa", sum := "15e3f0aaa9911de4b56d385898670c47f9fd60acf61a55e382b2b37037accf6e", func := "fanlight/fanlightlaw04.SealTells", spec := "sealTells", unfollowed := true, recurses := true, apart := false }
def SealTellsSaid : Prop := sealTellsRow.holds Try.pinned (OpenSpec.ofChange sealTellsSpec)

/-- ITS FALSE NEIGHBOUR: 'it returns false'. Refute it at one input. -/
def sealTellsWrong : ChangeSpec := { name := "sealTells", fn := fun _ => fun
  | [d1, d2] => { results := [.lit (.bool false)], args := [d1, d2] }
  | _ => none }
def SealTellsWrongFalsely : Prop := sealTellsRow.holds Try.pinned (OpenSpec.ofChange sealTellsWrong)

/-- 'fanlightlaw04.SealScans': WHATEVER THE INPUT: true; the input reads as it did. -/
def sealScansSpec : ChangeSpec := { name := "sealScans", fn := fun _ => fun
  | [d1, d2] => { results := [.lit (.bool true)], args := [d1, d2] }
  | _ => none }
def sealScansRow : OpenClaim := { program := "ytchmncgnaiiijaa", sum := "15e3f0aaa9911de4b56d385898670c47f9fd60acf61a55e382b2b37037accf6e", func := "fanlight/fanlightlaw04.SealScans", spec := "sealScans", unfollowed := true, recurses := true, apart := false }
def SealScansSaid : Prop := sealScansRow.holds Try.pinned (OpenSpec.ofChange sealScansSpec)

/-- ITS FALSE NEIGHBOUR: 'it returns false'. Refute it at one input. -/
def sealScansWrong : ChangeSpec := { name := "sealScans", fn := fun _ => fun
  | [d1, d2] => { results := [.lit (.bool false)], args := [d1, d2] }
  | _ => none }
def SealScansWrongFalsely : Prop := sealScansRow.holds Try.pinned (OpenSpec.ofChange sealScansWrong)

/- THE SECOND FORM. 'bulk': how many values and letters a reading holds, each counted each time it is reached (what is shared counts as often as it is met; a slice's spare places count too). A statement '..UptoSaid' is the law's where the arguments, and the package variables that the reading takes, are together of bulk at most 1048576: NARROWER than '..Said'. Prove '..Said' where nothing that the law and all that it calls make is longer than what came in: it says more and counts as full. Else prove '..UptoSaid'. A law counts once. -/
mutual
def uptoBulk {H : Type} : DataW H → Nat
  | .lit (.string bytes) => bytes.length + 1
  | .lit _ => 1
  | .nil => 1
  | .ptr d => uptoBulk d + 1
  | .slice elems spare => uptoBulkAll elems + uptoBulkAll spare + 1
  | .agg parts => uptoBulkAll parts + 1
  | .iface _ d => uptoBulk d + 1
  | .map entries => uptoBulkEntries entries + 1
  | .held _ => 1
def uptoBulkAll {H : Type} : List (DataW H) → Nat
  | [] => 0
  | d :: r => uptoBulk d + uptoBulkAll r
def uptoBulkEntries {H : Type} : List (Lit × DataW H) → Nat
  | [] => 0
  | x :: r => uptoBulkEntry x + uptoBulkEntries r
def uptoBulkEntry {H : Type} : Lit × DataW H → Nat
  | (.string bytes, d) => bytes.length + uptoBulk d + 1
  | (_, d) => uptoBulk d + 1
 end
def uptoSmall : (H : Type) → List (DataW H) → Bool := fun _ ds => decide (uptoBulkAll ds ≤ 1048576)
def OpenSpec.upto (s : _root_.Go.ChangeSpec) : _root_.Go.OpenSpec := { _root_.Go.OpenSpec.ofChange s with cond := some uptoSmall }

/-- 'fanlightlaw11.LisNone', WHERE WHAT IT READS IS OF BULK AT MOST 1048576: true; the input reads as it did. -/
def lisNoneUptoRow : OpenClaim := { program := "ytchmncgnaiiijaa", sum := "15e3f0aaa9911de4b56d385898670c47f9fd60acf61a55e382b2b37037accf6e", func := "fanlight/fanlightlaw11.LisNone", spec := "lisNone", unfollowed := true, recurses := true, apart := false, narrowed := true }
def LisNoneUptoSaid : Prop := lisNoneUptoRow.holds Try.pinned (OpenSpec.upto lisNoneSpec)

/-- 'fanlightlaw11.LisMore', WHERE WHAT IT READS IS OF BULK AT MOST 1048576: true; the input reads as it did. -/
def lisMoreUptoRow : OpenClaim := { program := "ytchmncgnaiiijaa", sum := "15e3f0aaa9911de4b56d385898670c47f9fd60acf61a55e382b2b37037accf6e", func := "fanlight/fanlightlaw11.LisMore", spec := "lisMore", unfollowed := true, recurses := true, apart := false, narrowed := true }
def LisMoreUptoSaid : Prop := lisMoreUptoRow.holds Try.pinned (OpenSpec.upto lisMoreSpec)

/-- 'fanlightlaw04.SealFinds', WHERE WHAT IT READS IS OF BULK AT MOST 1048576: true; the input reads as it did. -/
def sealFindsUptoRow : OpenClaim := { program := "ytchmncgnaiiijaa", sum := "15e3f0aaa9911de4b56d385898670c47f9fd60acf61a55e382b2b37037accf6e", func := "fanlight/fanlightlaw04.SealFinds", spec := "sealFinds", apart := false, narrowed := true }
def SealFindsUptoSaid : Prop := sealFindsUptoRow.holds Try.pinned (OpenSpec.upto sealFindsSpec)

/-- 'fanlightlaw04.SealBack', WHERE WHAT IT READS IS OF BULK AT MOST 1048576: true; the input reads as it did. -/
def sealBackUptoRow : OpenClaim := { program := "ytchmncgnaiiijaa", sum := "15e3f0aaa9911de4b56d385898670c47f9fd60acf61a55e382b2b37037accf6e", func := "fanlight/fanlightlaw04.SealBack", spec := "sealBack", apart := false, narrowed := true }
def SealBackUptoSaid : Prop := sealBackUptoRow.holds Try.pinned (OpenSpec.upto sealBackSpec)

/-- 'fanlightlaw04.SealOwn', WHERE WHAT IT READS IS OF BULK AT MOST 1048576: true; the input reads as it did. -/
def sealOwnUptoRow : OpenClaim := { program := "ytchmncgnaiiijaa", sum := "15e3f0aaa9911de4b56d385898670c47f9fd60acf61a55e382b2b37037accf6e", func := "fanlight/fanlightlaw04.SealOwn", spec := "sealOwn", apart := false, narrowed := true }
def SealOwnUptoSaid : Prop := sealOwnUptoRow.holds Try.pinned (OpenSpec.upto sealOwnSpec)

/-- 'fanlightlaw11.LisRises', WHERE WHAT IT READS IS OF BULK AT MOST 1048576: true; the input reads as it did. -/
def lisRisesUptoRow : OpenClaim := { program := "ytchmncgnaiiijaa", sum := "15e3f0aaa9911de4b56d385898670c47f9fd60acf61a55e382b2b37037accf6e", func := "fanlight/fanlightlaw11.LisRises", spec := "lisRises", unfollowed := true, recurses := true, apart := false, narrowed := true }
def LisRisesUptoSaid : Prop := lisRisesUptoRow.holds Try.pinned (OpenSpec.upto lisRisesSpec)

/-- 'fanlightlaw11.LisMoved', WHERE WHAT IT READS IS OF BULK AT MOST 1048576: true; the input reads as it did. -/
def lisMovedUptoRow : OpenClaim := { program := "ytchmncgnaiiijaa", sum := "15e3f0aaa9911de4b56d385898670c47f9fd60acf61a55e382b2b37037accf6e", func := "fanlight/fanlightlaw11.LisMoved", spec := "lisMoved", unfollowed := true, recurses := true, apart := false, narrowed := true }
def LisMovedUptoSaid : Prop := lisMovedUptoRow.holds Try.pinned (OpenSpec.upto lisMovedSpec)

/-- 'fanlightlaw11.LisMoves', WHERE WHAT IT READS IS OF BULK AT MOST 1048576: true; the input reads as it did. -/
def lisMovesUptoRow : OpenClaim := { program := "ytchmncgnaiiijaa", sum := "15e3f0aaa9911de4b56d385898670c47f9fd60acf61a55e382b2b37037accf6e", func := "fanlight/fanlightlaw11.LisMoves", spec := "lisMoves", unfollowed := true, recurses := true, apart := false, narrowed := true }
def LisMovesUptoSaid : Prop := lisMovesUptoRow.holds Try.pinned (OpenSpec.upto lisMovesSpec)

/-- 'fanlightlaw11.LisTells', WHERE WHAT IT READS IS OF BULK AT MOST 1048576: true; the input reads as it did. -/
def lisTellsUptoRow : OpenClaim := { program := "ytchmncgnaiiijaa", sum := "15e3f0aaa9911de4b56d385898670c47f9fd60acf61a55e382b2b37037accf6e", func := "fanlight/fanlightlaw11.LisTells", spec := "lisTells", unfollowed := true, recurses := true, apart := false, narrowed := true }
def LisTellsUptoSaid : Prop := lisTellsUptoRow.holds Try.pinned (OpenSpec.upto lisTellsSpec)

/-- 'fanlightlaw04.SealTells', WHERE WHAT IT READS IS OF BULK AT MOST 1048576: true; the input reads as it did. -/
def sealTellsUptoRow : OpenClaim := { program := "ytchmncgnaiiijaa", sum := "15e3f0aaa9911de4b56d385898670c47f9fd60acf61a55e382b2b37037accf6e", func := "fanlight/fanlightlaw04.SealTells", spec := "sealTells", unfollowed := true, recurses := true, apart := false, narrowed := true }
def SealTellsUptoSaid : Prop := sealTellsUptoRow.holds Try.pinned (OpenSpec.upto sealTellsSpec)

/-- 'fanlightlaw04.SealScans', WHERE WHAT IT READS IS OF BULK AT MOST 1048576: true; the input reads as it did. -/
def sealScansUptoRow : OpenClaim := { program := "ytchmncgnaiiijaa", sum := "15e3f0aaa9911de4b56d385898670c47f9fd60acf61a55e382b2b37037accf6e", func := "fanlight/fanlightlaw04.SealScans", spec := "sealScans", unfollowed := true, recurses := true, apart := false, narrowed := true }
def SealScansUptoSaid : Prop := sealScansUptoRow.holds Try.pinned (OpenSpec.upto sealScansSpec)

end Rows
end Go.Proofs.Ytchmncgnaiiijaa
