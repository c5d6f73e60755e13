/-
  NARROWER THAN 'FOR EVERY INPUT', by the rows' own cells (each row's printed sentence says how): DomBuilds: loops · DiffFits: loops.
  DERIVED. THE GIVEN ROWS OF THIS SEAT. 8 by the template 'for every input the law returns true; each argument reads behind the call as it read before'; 0 by the template 'total and deterministic' (their statements: YtleofbidijbahaaTotals.lean).
  GIVEN WITH THE SEED: the statements are not yours to turn. If you find one false, say at which input.
  Laid BY PROGRAM, IN A SANDBOX (cutbox-rows.mjs): the forced cells as the released guide's own fill.sh prints them over the translation 18a4fbf13371b47c… (all of the seat's roots in one cut). By AI agents, Wed Nov 11 2026. No macro, syntax, notation, axiom, sorry.
-/
import Derived.Test.YtleofbidijbahaaChecked
import GoSem.Claim
import GoSem.ClaimJoined
import GoSem.ClaimMapViews
import Derived.JoinedTies
import Derived.KernelRfl
namespace Go.Proofs.Ytleofbidijbahaa
/- THE CELL 'sum', in the pinned program and in every row, IS THE sha256 OF THE DUMP (.gsa) THAT YtleofbidijbahaaProg.lean LOADS. Nothing in Lean hashes anything: it is a label: what it is worth is what the hold of that sum in a sandbox is worth. -/
noncomputable def Try.pinned : Pinned := { name := "ytleofbidijbahaa", sum := "18a4fbf13371b47c4bf66a71f02bbaacae47cf05c84cfdbb3147e43fe5a2a560", checked := Try.checked }
namespace Rows
def none {H : Type} : Left H := { results := [], args := [] }

/-- 'fanlightlaw10.DomRuns': WHATEVER THE INPUT: true; the input reads as it did. -/
def domRunsSpec : ChangeSpec := { name := "domRuns", fn := fun _ => fun
  | [d1, d2] => { results := [.lit (.bool true)], args := [d1, d2] }
  | _ => none }
def domRunsRow : OpenClaim := { program := "ytleofbidijbahaa", sum := "18a4fbf13371b47c4bf66a71f02bbaacae47cf05c84cfdbb3147e43fe5a2a560", func := "fanlight/fanlightlaw10.DomRuns", spec := "domRuns", inPlace := ["slices.overlaps[int]", "slices.overlaps[fanlight/api.Attr]"], unfollowed := true, recurses := true, apart := false }
def DomRunsSaid : Prop := domRunsRow.holds Try.pinned (OpenSpec.ofChange domRunsSpec)

/-- ITS FALSE NEIGHBOUR: 'it returns false'. Refute it at one input. -/
def domRunsWrong : ChangeSpec := { name := "domRuns", fn := fun _ => fun
  | [d1, d2] => { results := [.lit (.bool false)], args := [d1, d2] }
  | _ => none }
def DomRunsWrongFalsely : Prop := domRunsRow.holds Try.pinned (OpenSpec.ofChange domRunsWrong)

/-- 'fanlightlaw10.DomTells': WHATEVER THE INPUT: true; the input reads as it did. -/
def domTellsSpec : ChangeSpec := { name := "domTells", fn := fun _ => fun
  | [d1, d2] => { results := [.lit (.bool true)], args := [d1, d2] }
  | _ => none }
def domTellsRow : OpenClaim := { program := "ytleofbidijbahaa", sum := "18a4fbf13371b47c4bf66a71f02bbaacae47cf05c84cfdbb3147e43fe5a2a560", func := "fanlight/fanlightlaw10.DomTells", spec := "domTells", inPlace := ["slices.overlaps[int]", "slices.overlaps[fanlight/api.Attr]"], unfollowed := true, recurses := true, apart := false }
def DomTellsSaid : Prop := domTellsRow.holds Try.pinned (OpenSpec.ofChange domTellsSpec)

/-- ITS FALSE NEIGHBOUR: 'it returns false'. Refute it at one input. -/
def domTellsWrong : ChangeSpec := { name := "domTells", fn := fun _ => fun
  | [d1, d2] => { results := [.lit (.bool false)], args := [d1, d2] }
  | _ => none }
def DomTellsWrongFalsely : Prop := domTellsRow.holds Try.pinned (OpenSpec.ofChange domTellsWrong)

/-- 'fanlightlaw10.DomKeeps': WHATEVER THE INPUT: true; the input reads as it did. -/
def domKeepsSpec : ChangeSpec := { name := "domKeeps", fn := fun _ => fun
  | [d1, d2] => { results := [.lit (.bool true)], args := [d1, d2] }
  | _ => none }
def domKeepsRow : OpenClaim := { program := "ytleofbidijbahaa", sum := "18a4fbf13371b47c4bf66a71f02bbaacae47cf05c84cfdbb3147e43fe5a2a560", func := "fanlight/fanlightlaw10.DomKeeps", spec := "domKeeps", inPlace := ["slices.overlaps[int]", "slices.overlaps[fanlight/api.Attr]"], unfollowed := true, recurses := true, apart := false }
def DomKeepsSaid : Prop := domKeepsRow.holds Try.pinned (OpenSpec.ofChange domKeepsSpec)

/-- ITS FALSE NEIGHBOUR: 'it returns false'. Refute it at one input. -/
def domKeepsWrong : ChangeSpec := { name := "domKeeps", fn := fun _ => fun
  | [d1, d2] => { results := [.lit (.bool false)], args := [d1, d2] }
  | _ => none }
def DomKeepsWrongFalsely : Prop := domKeepsRow.holds Try.pinned (OpenSpec.ofChange domKeepsWrong)

/-- 'fanlightlaw10.DomBack': WHATEVER THE INPUT: true; the input reads as it did. -/
def domBackSpec : ChangeSpec := { name := "domBack", fn := fun _ => fun
  | [d1, d2, d3, d4] => { results := [.lit (.bool true)], args := [d1, d2, d3, d4] }
  | _ => none }
def domBackRow : OpenClaim := { program := "ytleofbidijbahaa", sum := "18a4fbf13371b47c4bf66a71f02bbaacae47cf05c84cfdbb3147e43fe5a2a560", func := "fanlight/fanlightlaw10.DomBack", spec := "domBack", inPlace := ["slices.overlaps[int]", "slices.overlaps[fanlight/api.Attr]"], unfollowed := true, recurses := true, apart := false }
def DomBackSaid : Prop := domBackRow.holds Try.pinned (OpenSpec.ofChange domBackSpec)

/-- ITS FALSE NEIGHBOUR: 'it returns false'. Refute it at one input. -/
def domBackWrong : ChangeSpec := { name := "domBack", fn := fun _ => fun
  | [d1, d2, d3, d4] => { results := [.lit (.bool false)], args := [d1, d2, d3, d4] }
  | _ => none }
def DomBackWrongFalsely : Prop := domBackRow.holds Try.pinned (OpenSpec.ofChange domBackWrong)

/-- 'fanlightlaw10.DomGone': WHATEVER THE INPUT: true; the input reads as it did. -/
def domGoneSpec : ChangeSpec := { name := "domGone", fn := fun _ => fun
  | [d1, d2] => { results := [.lit (.bool true)], args := [d1, d2] }
  | _ => none }
def domGoneRow : OpenClaim := { program := "ytleofbidijbahaa", sum := "18a4fbf13371b47c4bf66a71f02bbaacae47cf05c84cfdbb3147e43fe5a2a560", func := "fanlight/fanlightlaw10.DomGone", spec := "domGone", inPlace := ["slices.overlaps[int]", "slices.overlaps[fanlight/api.Attr]"], unfollowed := true, recurses := true, apart := false }
def DomGoneSaid : Prop := domGoneRow.holds Try.pinned (OpenSpec.ofChange domGoneSpec)

/-- ITS FALSE NEIGHBOUR: 'it returns false'. Refute it at one input. -/
def domGoneWrong : ChangeSpec := { name := "domGone", fn := fun _ => fun
  | [d1, d2] => { results := [.lit (.bool false)], args := [d1, d2] }
  | _ => none }
def DomGoneWrongFalsely : Prop := domGoneRow.holds Try.pinned (OpenSpec.ofChange domGoneWrong)

/-- 'fanlightlaw10.DomOwn': WHATEVER THE INPUT: true; the input reads as it did. -/
def domOwnSpec : ChangeSpec := { name := "domOwn", fn := fun _ => fun
  | [d1, d2] => { results := [.lit (.bool true)], args := [d1, d2] }
  | _ => none }
def domOwnRow : OpenClaim := { program := "ytleofbidijbahaa", sum := "18a4fbf13371b47c4bf66a71f02bbaacae47cf05c84cfdbb3147e43fe5a2a560", func := "fanlight/fanlightlaw10.DomOwn", spec := "domOwn", inPlace := ["slices.overlaps[int]", "slices.overlaps[fanlight/api.Attr]"], unfollowed := true, recurses := true, apart := false }
def DomOwnSaid : Prop := domOwnRow.holds Try.pinned (OpenSpec.ofChange domOwnSpec)

/-- ITS FALSE NEIGHBOUR: 'it returns false'. Refute it at one input. -/
def domOwnWrong : ChangeSpec := { name := "domOwn", fn := fun _ => fun
  | [d1, d2] => { results := [.lit (.bool false)], args := [d1, d2] }
  | _ => none }
def DomOwnWrongFalsely : Prop := domOwnRow.holds Try.pinned (OpenSpec.ofChange domOwnWrong)

/-- 'fanlightlaw10.DomBuilds': WHATEVER THE INPUT: true; the input reads as it did. -/
def domBuildsSpec : ChangeSpec := { name := "domBuilds", fn := fun _ => fun
  | [d] => { results := [.lit (.bool true)], args := [d] }
  | _ => none }
def domBuildsRow : OpenClaim := { program := "ytleofbidijbahaa", sum := "18a4fbf13371b47c4bf66a71f02bbaacae47cf05c84cfdbb3147e43fe5a2a560", func := "fanlight/fanlightlaw10.DomBuilds", spec := "domBuilds", inPlace := ["slices.overlaps[int]", "slices.overlaps[fanlight/api.Attr]"], unfollowed := true, recurses := true, loops := true, apart := false }
def DomBuildsSaid : Prop := domBuildsRow.holds Try.pinned (OpenSpec.ofChange domBuildsSpec)

/-- ITS FALSE NEIGHBOUR: 'it returns false'. Refute it at one input. -/
def domBuildsWrong : ChangeSpec := { name := "domBuilds", fn := fun _ => fun
  | [d] => { results := [.lit (.bool false)], args := [d] }
  | _ => none }
def DomBuildsWrongFalsely : Prop := domBuildsRow.holds Try.pinned (OpenSpec.ofChange domBuildsWrong)

/-- 'fanlightlaw12.DiffFits': WHATEVER THE INPUT: true; the input reads as it did. -/
def diffFitsSpec : ChangeSpec := { name := "diffFits", fn := fun _ => fun
  | [d1, d2, d3] => { results := [.lit (.bool true)], args := [d1, d2, d3] }
  | _ => none }
def diffFitsRow : OpenClaim := { program := "ytleofbidijbahaa", sum := "18a4fbf13371b47c4bf66a71f02bbaacae47cf05c84cfdbb3147e43fe5a2a560", func := "fanlight/fanlightlaw12.DiffFits", spec := "diffFits", inPlace := ["slices.overlaps[int]"], unfollowed := true, recurses := true, loops := true, apart := false }
def DiffFitsSaid : Prop := diffFitsRow.holds Try.pinned (OpenSpec.ofChange diffFitsSpec)

/-- ITS FALSE NEIGHBOUR: 'it returns false'. Refute it at one input. -/
def diffFitsWrong : ChangeSpec := { name := "diffFits", fn := fun _ => fun
  | [d1, d2, d3] => { results := [.lit (.bool false)], args := [d1, d2, d3] }
  | _ => none }
def DiffFitsWrongFalsely : Prop := diffFitsRow.holds Try.pinned (OpenSpec.ofChange diffFitsWrong)

/- THE SECOND FORM. 'bulk': how many values and letters a reading holds, each counted each time it is reached (what is shared counts as often as it is met; a slice's spare places count too). A statement '..UptoSaid' is the law's where the arguments, and the package variables that the reading takes, are together of bulk at most 1048576: NARROWER than '..Said'. Prove '..Said' where nothing that the law and all that it calls make is longer than what came in: it says more and counts as full. Else prove '..UptoSaid'. A law counts once. -/
mutual
def uptoBulk {H : Type} : DataW H → Nat
  | .lit (.string bytes) => bytes.length + 1
  | .lit _ => 1
  | .nil => 1
  | .ptr d => uptoBulk d + 1
  | .slice elems spare => uptoBulkAll elems + uptoBulkAll spare + 1
  | .agg parts => uptoBulkAll parts + 1
  | .iface _ d => uptoBulk d + 1
  | .map entries => uptoBulkEntries entries + 1
  | .held _ => 1
def uptoBulkAll {H : Type} : List (DataW H) → Nat
  | [] => 0
  | d :: r => uptoBulk d + uptoBulkAll r
def uptoBulkEntries {H : Type} : List (Lit × DataW H) → Nat
  | [] => 0
  | x :: r => uptoBulkEntry x + uptoBulkEntries r
def uptoBulkEntry {H : Type} : Lit × DataW H → Nat
  | (.string bytes, d) => bytes.length + uptoBulk d + 1
  | (_, d) => uptoBulk d + 1
 end
def uptoSmall : (H : Type) → List (DataW H) → Bool := fun _ ds => decide (uptoBulkAll ds ≤ 1048576)
def OpenSpec.upto (s : _root_.Go.ChangeSpec) : _root_.Go.OpenSpec := { _root_.Go.OpenSpec.ofChange s with cond := some uptoSmall }

/-- 'fanlightlaw10.DomRuns', WHERE WHAT IT READS IS OF BULK AT MOST 1048576: true; the input reads as it did. -/
def domRunsUptoRow : OpenClaim := { program := "ytleofbidijbahaa", sum := "18a4fbf13371b47c4bf66a71f02bbaacae47cf05c84cfdbb3147e43fe5a2a560", func := "fanlight/fanlightlaw10.DomRuns", spec := "domRuns", inPlace := ["slices.overlaps[int]", "slices.overlaps[fanlight/api.Attr]"], unfollowed := true, recurses := true, apart := false, narrowed := true }
def DomRunsUptoSaid : Prop := domRunsUptoRow.holds Try.pinned (OpenSpec.upto domRunsSpec)

/-- 'fanlightlaw10.DomTells', WHERE WHAT IT READS IS OF BULK AT MOST 1048576: true; the input reads as it did. -/
def domTellsUptoRow : OpenClaim := { program := "ytleofbidijbahaa", sum := "18a4fbf13371b47c4bf66a71f02bbaacae47cf05c84cfdbb3147e43fe5a2a560", func := "fanlight/fanlightlaw10.DomTells", spec := "domTells", inPlace := ["slices.overlaps[int]", "slices.overlaps[fanlight/api.Attr]"], unfollowed := true, recurses := true, apart := false, narrowed := true }
def DomTellsUptoSaid : Prop := domTellsUptoRow.holds Try.pinned (OpenSpec.upto domTellsSpec)

/-- 'fanlightlaw10.DomKeeps', WHERE WHAT IT READS IS OF BULK AT MOST 1048576: true; the input reads as it did. -/
def domKeepsUptoRow : OpenClaim := { program := "ytleofbidijbahaa", sum := "18a4fbf13371b47c4bf66a71f02bbaacae47cf05c84cfdbb3147e43fe5a2a560", func := "fanlight/fanlightlaw10.DomKeeps", spec := "domKeeps", inPlace := ["slices.overlaps[int]", "slices.overlaps[fanlight/api.Attr]"], unfollowed := true, recurses := true, apart := false, narrowed := true }
def DomKeepsUptoSaid : Prop := domKeepsUptoRow.holds Try.pinned (OpenSpec.upto domKeepsSpec)

/-- 'fanlightlaw10.DomBack', WHERE WHAT IT READS IS OF BULK AT MOST 1048576: true; the input reads as it did. -/
def domBackUptoRow : OpenClaim := { program := "ytleofbidijbahaa", sum := "18a4fbf13371b47c4bf66a71f02bbaacae47cf05c84cfdbb3147e43fe5a2a560", func := "fanlight/fanlightlaw10.DomBack", spec := "domBack", inPlace := ["slices.overlaps[int]", "slices.overlaps[fanlight/api.Attr]"], unfollowed := true, recurses := true, apart := false, narrowed := true }
def DomBackUptoSaid : Prop := domBackUptoRow.holds Try.pinned (OpenSpec.upto domBackSpec)

/-- 'fanlightlaw10.DomGone', WHERE WHAT IT READS IS OF BULK AT MOST 1048576: true; the input reads as it did. -/
def domGoneUptoRow : OpenClaim := { program := "ytleofbidijbahaa", sum := "18a4fbf13371b47c4bf66a71f02bbaacae47cf05c84cfdbb3147e43fe5a2a560", func := "fanlight/fanlightlaw10.DomGone", spec := "domGone", inPlace := ["slices.overlaps[int]", "slices.overlaps[fanlight/api.Attr]"], unfollowed := true, recurses := true, apart := false, narrowed := true }
def DomGoneUptoSaid : Prop := domGoneUptoRow.holds Try.pinned (OpenSpec.upto domGoneSpec)

/-- 'fanlightlaw10.DomOwn', WHERE WHAT IT READS IS OF BULK AT MOST 1048576: true; the input reads as it did. -/
def domOwnUptoRow : OpenClaim := { program := "ytleofbidijbahaa", sum := "18a4fbf13371b47c4bf66a71f02bbaacae47cf05c84cfdbb3147e43fe5a2a560", func := "fanlight/fanlightlaw10.DomOwn", spec := "domOwn", inPlace := ["slices.overlaps[int]", "slices.overlaps[fanlight/api.Attr]"], unfollowed := true, recurses := true, apart := false, narrowed := true }
def DomOwnUptoSaid : Prop := domOwnUptoRow.holds Try.pinned (OpenSpec.upto domOwnSpec)

/-- 'fanlightlaw10.DomBuilds', WHERE WHAT IT READS IS OF BULK AT MOST 1048576: true; the input reads as it did. -/
def domBuildsUptoRow : OpenClaim := { program := "ytleofbidijbahaa", sum := "18a4fbf13371b47c4bf66a71f02bbaacae47cf05c84cfdbb3147e43fe5a2a560", func := "fanlight/fanlightlaw10.DomBuilds", spec := "domBuilds", inPlace := ["slices.overlaps[int]", "slices.overlaps[fanlight/api.Attr]"], unfollowed := true, recurses := true, loops := true, apart := false, narrowed := true }
def DomBuildsUptoSaid : Prop := domBuildsUptoRow.holds Try.pinned (OpenSpec.upto domBuildsSpec)

/-- 'fanlightlaw12.DiffFits', WHERE WHAT IT READS IS OF BULK AT MOST 1048576: true; the input reads as it did. -/
def diffFitsUptoRow : OpenClaim := { program := "ytleofbidijbahaa", sum := "18a4fbf13371b47c4bf66a71f02bbaacae47cf05c84cfdbb3147e43fe5a2a560", func := "fanlight/fanlightlaw12.DiffFits", spec := "diffFits", inPlace := ["slices.overlaps[int]"], unfollowed := true, recurses := true, loops := true, apart := false, narrowed := true }
def DiffFitsUptoSaid : Prop := diffFitsUptoRow.holds Try.pinned (OpenSpec.upto diffFitsSpec)

end Rows
end Go.Proofs.Ytleofbidijbahaa
