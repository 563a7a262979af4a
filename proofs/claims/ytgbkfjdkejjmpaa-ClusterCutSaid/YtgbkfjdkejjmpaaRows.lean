/-
  No cell of these rows narrows 'for every input' (looked for: loops, veiled, ifaces, maps, wideKeys, modest, calm, conditions, laid).
  DERIVED. THE GIVEN ROWS OF THIS SEAT. 13 by the template 'for every input the law returns true; each argument reads behind the call as it read before'; 0 by the template 'total and deterministic' (their statements: YtgbkfjdkejjmpaaTotals.lean).
  GIVEN WITH THE SEED: the statements are not yours to turn. If you find one false, say at which input.
  Laid BY PROGRAM, IN A SANDBOX (cutbox-rows.mjs): the forced cells as the released guide's own fill.sh prints them over the translation 53702ea049b42720… (all of the seat's roots in one cut). By AI agents, Wed Nov 11 2026. No macro, syntax, notation, axiom, sorry.
-/
import Derived.Test.YtgbkfjdkejjmpaaChecked
import GoSem.Claim
import GoSem.ClaimJoined
import GoSem.ClaimMapViews
import Derived.JoinedTies
import Derived.KernelRfl
namespace Go.Proofs.Ytgbkfjdkejjmpaa
/- THE CELL 'sum', in the pinned program and in every row, IS THE sha256 OF THE DUMP (.gsa) THAT YtgbkfjdkejjmpaaProg.lean LOADS. Nothing in Lean hashes anything: it is a label: what it is worth is what the hold of that sum in a sandbox is worth. -/
noncomputable def Try.pinned : Pinned := { name := "ytgbkfjdkejjmpaa", sum := "53702ea049b42720961c92773b71a00fc39724a15f66522d505f587e5dffb904", checked := Try.checked }
namespace Rows
def none {H : Type} : Left H := { results := [], args := [] }

/-- 'parquetrylaw04.ColsOf': WHATEVER THE INPUT: true; the input reads as it did. -/
def colsOfSpec : ChangeSpec := { name := "colsOf", fn := fun _ => fun
  | [d] => { results := [.lit (.bool true)], args := [d] }
  | _ => none }
def colsOfRow : OpenClaim := { program := "ytgbkfjdkejjmpaa", sum := "53702ea049b42720961c92773b71a00fc39724a15f66522d505f587e5dffb904", func := "parquetry/parquetrylaw04.ColsOf", spec := "colsOf", unfollowed := true, recurses := true, apart := false }
def ColsOfSaid : Prop := colsOfRow.holds Try.pinned (OpenSpec.ofChange colsOfSpec)

/-- ITS FALSE NEIGHBOUR: 'it returns false'. Refute it at one input. -/
def colsOfWrong : ChangeSpec := { name := "colsOf", fn := fun _ => fun
  | [d] => { results := [.lit (.bool false)], args := [d] }
  | _ => none }
def ColsOfWrongFalsely : Prop := colsOfRow.holds Try.pinned (OpenSpec.ofChange colsOfWrong)

/-- 'parquetrylaw04.ColsAll': WHATEVER THE INPUT: true; the input reads as it did. -/
def colsAllSpec : ChangeSpec := { name := "colsAll", fn := fun _ => fun
  | [d] => { results := [.lit (.bool true)], args := [d] }
  | _ => none }
def colsAllRow : OpenClaim := { program := "ytgbkfjdkejjmpaa", sum := "53702ea049b42720961c92773b71a00fc39724a15f66522d505f587e5dffb904", func := "parquetry/parquetrylaw04.ColsAll", spec := "colsAll", unfollowed := true, recurses := true, apart := false }
def ColsAllSaid : Prop := colsAllRow.holds Try.pinned (OpenSpec.ofChange colsAllSpec)

/-- ITS FALSE NEIGHBOUR: 'it returns false'. Refute it at one input. -/
def colsAllWrong : ChangeSpec := { name := "colsAll", fn := fun _ => fun
  | [d] => { results := [.lit (.bool false)], args := [d] }
  | _ => none }
def ColsAllWrongFalsely : Prop := colsAllRow.holds Try.pinned (OpenSpec.ofChange colsAllWrong)

/-- 'parquetrylaw04.ColsSums': WHATEVER THE INPUT: true; the input reads as it did. -/
def colsSumsSpec : ChangeSpec := { name := "colsSums", fn := fun _ => fun
  | [d1, d2] => { results := [.lit (.bool true)], args := [d1, d2] }
  | _ => none }
def colsSumsRow : OpenClaim := { program := "ytgbkfjdkejjmpaa", sum := "53702ea049b42720961c92773b71a00fc39724a15f66522d505f587e5dffb904", func := "parquetry/parquetrylaw04.ColsSums", spec := "colsSums", unfollowed := true, recurses := true, apart := false }
def ColsSumsSaid : Prop := colsSumsRow.holds Try.pinned (OpenSpec.ofChange colsSumsSpec)

/-- ITS FALSE NEIGHBOUR: 'it returns false'. Refute it at one input. -/
def colsSumsWrong : ChangeSpec := { name := "colsSums", fn := fun _ => fun
  | [d1, d2] => { results := [.lit (.bool false)], args := [d1, d2] }
  | _ => none }
def ColsSumsWrongFalsely : Prop := colsSumsRow.holds Try.pinned (OpenSpec.ofChange colsSumsWrong)

/-- 'parquetrylaw04.ColsPlain': WHATEVER THE INPUT: true; the input reads as it did. -/
def colsPlainSpec : ChangeSpec := { name := "colsPlain", fn := fun _ => fun
  | [d] => { results := [.lit (.bool true)], args := [d] }
  | _ => none }
def colsPlainRow : OpenClaim := { program := "ytgbkfjdkejjmpaa", sum := "53702ea049b42720961c92773b71a00fc39724a15f66522d505f587e5dffb904", func := "parquetry/parquetrylaw04.ColsPlain", spec := "colsPlain", unfollowed := true, recurses := true, apart := false }
def ColsPlainSaid : Prop := colsPlainRow.holds Try.pinned (OpenSpec.ofChange colsPlainSpec)

/-- ITS FALSE NEIGHBOUR: 'it returns false'. Refute it at one input. -/
def colsPlainWrong : ChangeSpec := { name := "colsPlain", fn := fun _ => fun
  | [d] => { results := [.lit (.bool false)], args := [d] }
  | _ => none }
def ColsPlainWrongFalsely : Prop := colsPlainRow.holds Try.pinned (OpenSpec.ofChange colsPlainWrong)

/-- 'parquetrylaw05.GcbOf': WHATEVER THE INPUT: true; the input reads as it did. -/
def gcbOfSpec : ChangeSpec := { name := "gcbOf", fn := fun _ => fun
  | [d] => { results := [.lit (.bool true)], args := [d] }
  | _ => none }
def gcbOfRow : OpenClaim := { program := "ytgbkfjdkejjmpaa", sum := "53702ea049b42720961c92773b71a00fc39724a15f66522d505f587e5dffb904", func := "parquetry/parquetrylaw05.GcbOf", spec := "gcbOf", unfollowed := true, recurses := true, apart := false }
def GcbOfSaid : Prop := gcbOfRow.holds Try.pinned (OpenSpec.ofChange gcbOfSpec)

/-- ITS FALSE NEIGHBOUR: 'it returns false'. Refute it at one input. -/
def gcbOfWrong : ChangeSpec := { name := "gcbOf", fn := fun _ => fun
  | [d] => { results := [.lit (.bool false)], args := [d] }
  | _ => none }
def GcbOfWrongFalsely : Prop := gcbOfRow.holds Try.pinned (OpenSpec.ofChange gcbOfWrong)

/-- 'parquetrylaw05.GcbRuns': WHATEVER THE INPUT: true; the input reads as it did. -/
def gcbRunsSpec : ChangeSpec := { name := "gcbRuns", fn := fun _ => fun
  | [d] => { results := [.lit (.bool true)], args := [d] }
  | _ => none }
def gcbRunsRow : OpenClaim := { program := "ytgbkfjdkejjmpaa", sum := "53702ea049b42720961c92773b71a00fc39724a15f66522d505f587e5dffb904", func := "parquetry/parquetrylaw05.GcbRuns", spec := "gcbRuns", unfollowed := true, recurses := true, apart := false }
def GcbRunsSaid : Prop := gcbRunsRow.holds Try.pinned (OpenSpec.ofChange gcbRunsSpec)

/-- ITS FALSE NEIGHBOUR: 'it returns false'. Refute it at one input. -/
def gcbRunsWrong : ChangeSpec := { name := "gcbRuns", fn := fun _ => fun
  | [d] => { results := [.lit (.bool false)], args := [d] }
  | _ => none }
def GcbRunsWrongFalsely : Prop := gcbRunsRow.holds Try.pinned (OpenSpec.ofChange gcbRunsWrong)

/-- 'parquetrylaw05.GcbSyllables': WHATEVER THE INPUT: true; the input reads as it did. -/
def gcbSyllablesSpec : ChangeSpec := { name := "gcbSyllables", fn := fun _ => fun
  | [d] => { results := [.lit (.bool true)], args := [d] }
  | _ => none }
def gcbSyllablesRow : OpenClaim := { program := "ytgbkfjdkejjmpaa", sum := "53702ea049b42720961c92773b71a00fc39724a15f66522d505f587e5dffb904", func := "parquetry/parquetrylaw05.GcbSyllables", spec := "gcbSyllables", unfollowed := true, recurses := true, apart := false }
def GcbSyllablesSaid : Prop := gcbSyllablesRow.holds Try.pinned (OpenSpec.ofChange gcbSyllablesSpec)

/-- ITS FALSE NEIGHBOUR: 'it returns false'. Refute it at one input. -/
def gcbSyllablesWrong : ChangeSpec := { name := "gcbSyllables", fn := fun _ => fun
  | [d] => { results := [.lit (.bool false)], args := [d] }
  | _ => none }
def GcbSyllablesWrongFalsely : Prop := gcbSyllablesRow.holds Try.pinned (OpenSpec.ofChange gcbSyllablesWrong)

/-- 'parquetrylaw05.GcbCounts': WHATEVER THE INPUT: true; the input reads as it did. -/
def gcbCountsSpec : ChangeSpec := { name := "gcbCounts", fn := fun _ => fun
  | [d] => { results := [.lit (.bool true)], args := [d] }
  | _ => none }
def gcbCountsRow : OpenClaim := { program := "ytgbkfjdkejjmpaa", sum := "53702ea049b42720961c92773b71a00fc39724a15f66522d505f587e5dffb904", func := "parquetry/parquetrylaw05.GcbCounts", spec := "gcbCounts", unfollowed := true, recurses := true, apart := false }
def GcbCountsSaid : Prop := gcbCountsRow.holds Try.pinned (OpenSpec.ofChange gcbCountsSpec)

/-- ITS FALSE NEIGHBOUR: 'it returns false'. Refute it at one input. -/
def gcbCountsWrong : ChangeSpec := { name := "gcbCounts", fn := fun _ => fun
  | [d] => { results := [.lit (.bool false)], args := [d] }
  | _ => none }
def GcbCountsWrongFalsely : Prop := gcbCountsRow.holds Try.pinned (OpenSpec.ofChange gcbCountsWrong)

/-- 'parquetrylaw06.ClusterCut': WHATEVER THE INPUT: true; the input reads as it did. -/
def clusterCutSpec : ChangeSpec := { name := "clusterCut", fn := fun _ => fun
  | [d1, d2] => { results := [.lit (.bool true)], args := [d1, d2] }
  | _ => none }
def clusterCutRow : OpenClaim := { program := "ytgbkfjdkejjmpaa", sum := "53702ea049b42720961c92773b71a00fc39724a15f66522d505f587e5dffb904", func := "parquetry/parquetrylaw06.ClusterCut", spec := "clusterCut", unfollowed := true, recurses := true, apart := false }
def ClusterCutSaid : Prop := clusterCutRow.holds Try.pinned (OpenSpec.ofChange clusterCutSpec)

/-- ITS FALSE NEIGHBOUR: 'it returns false'. Refute it at one input. -/
def clusterCutWrong : ChangeSpec := { name := "clusterCut", fn := fun _ => fun
  | [d1, d2] => { results := [.lit (.bool false)], args := [d1, d2] }
  | _ => none }
def ClusterCutWrongFalsely : Prop := clusterCutRow.holds Try.pinned (OpenSpec.ofChange clusterCutWrong)

/-- 'parquetrylaw06.ClusterOf': WHATEVER THE INPUT: true; the input reads as it did. -/
def clusterOfSpec : ChangeSpec := { name := "clusterOf", fn := fun _ => fun
  | [d] => { results := [.lit (.bool true)], args := [d] }
  | _ => none }
def clusterOfRow : OpenClaim := { program := "ytgbkfjdkejjmpaa", sum := "53702ea049b42720961c92773b71a00fc39724a15f66522d505f587e5dffb904", func := "parquetry/parquetrylaw06.ClusterOf", spec := "clusterOf", unfollowed := true, recurses := true, apart := false }
def ClusterOfSaid : Prop := clusterOfRow.holds Try.pinned (OpenSpec.ofChange clusterOfSpec)

/-- ITS FALSE NEIGHBOUR: 'it returns false'. Refute it at one input. -/
def clusterOfWrong : ChangeSpec := { name := "clusterOf", fn := fun _ => fun
  | [d] => { results := [.lit (.bool false)], args := [d] }
  | _ => none }
def ClusterOfWrongFalsely : Prop := clusterOfRow.holds Try.pinned (OpenSpec.ofChange clusterOfWrong)

/-- 'parquetrylaw06.ClusterSplit': WHATEVER THE INPUT: true; the input reads as it did. -/
def clusterSplitSpec : ChangeSpec := { name := "clusterSplit", fn := fun _ => fun
  | [d] => { results := [.lit (.bool true)], args := [d] }
  | _ => none }
def clusterSplitRow : OpenClaim := { program := "ytgbkfjdkejjmpaa", sum := "53702ea049b42720961c92773b71a00fc39724a15f66522d505f587e5dffb904", func := "parquetry/parquetrylaw06.ClusterSplit", spec := "clusterSplit", unfollowed := true, recurses := true, apart := false }
def ClusterSplitSaid : Prop := clusterSplitRow.holds Try.pinned (OpenSpec.ofChange clusterSplitSpec)

/-- ITS FALSE NEIGHBOUR: 'it returns false'. Refute it at one input. -/
def clusterSplitWrong : ChangeSpec := { name := "clusterSplit", fn := fun _ => fun
  | [d] => { results := [.lit (.bool false)], args := [d] }
  | _ => none }
def ClusterSplitWrongFalsely : Prop := clusterSplitRow.holds Try.pinned (OpenSpec.ofChange clusterSplitWrong)

/-- 'parquetrylaw06.ClusterFind': WHATEVER THE INPUT: true; the input reads as it did. -/
def clusterFindSpec : ChangeSpec := { name := "clusterFind", fn := fun _ => fun
  | [d1, d2] => { results := [.lit (.bool true)], args := [d1, d2] }
  | _ => none }
def clusterFindRow : OpenClaim := { program := "ytgbkfjdkejjmpaa", sum := "53702ea049b42720961c92773b71a00fc39724a15f66522d505f587e5dffb904", func := "parquetry/parquetrylaw06.ClusterFind", spec := "clusterFind", unfollowed := true, recurses := true, apart := false }
def ClusterFindSaid : Prop := clusterFindRow.holds Try.pinned (OpenSpec.ofChange clusterFindSpec)

/-- ITS FALSE NEIGHBOUR: 'it returns false'. Refute it at one input. -/
def clusterFindWrong : ChangeSpec := { name := "clusterFind", fn := fun _ => fun
  | [d1, d2] => { results := [.lit (.bool false)], args := [d1, d2] }
  | _ => none }
def ClusterFindWrongFalsely : Prop := clusterFindRow.holds Try.pinned (OpenSpec.ofChange clusterFindWrong)

/-- 'parquetrylaw06.ClusterWhole': WHATEVER THE INPUT: true; the input reads as it did. -/
def clusterWholeSpec : ChangeSpec := { name := "clusterWhole", fn := fun _ => fun
  | [d] => { results := [.lit (.bool true)], args := [d] }
  | _ => none }
def clusterWholeRow : OpenClaim := { program := "ytgbkfjdkejjmpaa", sum := "53702ea049b42720961c92773b71a00fc39724a15f66522d505f587e5dffb904", func := "parquetry/parquetrylaw06.ClusterWhole", spec := "clusterWhole", unfollowed := true, recurses := true, apart := false }
def ClusterWholeSaid : Prop := clusterWholeRow.holds Try.pinned (OpenSpec.ofChange clusterWholeSpec)

/-- ITS FALSE NEIGHBOUR: 'it returns false'. Refute it at one input. -/
def clusterWholeWrong : ChangeSpec := { name := "clusterWhole", fn := fun _ => fun
  | [d] => { results := [.lit (.bool false)], args := [d] }
  | _ => none }
def ClusterWholeWrongFalsely : Prop := clusterWholeRow.holds Try.pinned (OpenSpec.ofChange clusterWholeWrong)

/- THE SECOND FORM. 'bulk': how many values and letters a reading holds, each counted each time it is reached (what is shared counts as often as it is met; a slice's spare places count too). A statement '..UptoSaid' is the law's where the arguments, and the package variables that the reading takes, are together of bulk at most 1048576: NARROWER than '..Said'. Prove '..Said' where nothing that the law and all that it calls make is longer than what came in: it says more and counts as full. Else prove '..UptoSaid'. A law counts once. -/
mutual
def uptoBulk {H : Type} : DataW H → Nat
  | .lit (.string bytes) => bytes.length + 1
  | .lit _ => 1
  | .nil => 1
  | .ptr d => uptoBulk d + 1
  | .slice elems spare => uptoBulkAll elems + uptoBulkAll spare + 1
  | .agg parts => uptoBulkAll parts + 1
  | .iface _ d => uptoBulk d + 1
  | .map entries => uptoBulkEntries entries + 1
  | .held _ => 1
def uptoBulkAll {H : Type} : List (DataW H) → Nat
  | [] => 0
  | d :: r => uptoBulk d + uptoBulkAll r
def uptoBulkEntries {H : Type} : List (Lit × DataW H) → Nat
  | [] => 0
  | x :: r => uptoBulkEntry x + uptoBulkEntries r
def uptoBulkEntry {H : Type} : Lit × DataW H → Nat
  | (.string bytes, d) => bytes.length + uptoBulk d + 1
  | (_, d) => uptoBulk d + 1
 end
def uptoSmall : (H : Type) → List (DataW H) → Bool := fun _ ds => decide (uptoBulkAll ds ≤ 1048576)
def OpenSpec.upto (s : _root_.Go.ChangeSpec) : _root_.Go.OpenSpec := { _root_.Go.OpenSpec.ofChange s with cond := some uptoSmall }

/-- 'parquetrylaw04.ColsOf', WHERE WHAT IT READS IS OF BULK AT MOST 1048576: true; the input reads as it did. -/
def colsOfUptoRow : OpenClaim := { program := "ytgbkfjdkejjmpaa", sum := "53702ea049b42720961c92773b71a00fc39724a15f66522d505f587e5dffb904", func := "parquetry/parquetrylaw04.ColsOf", spec := "colsOf", unfollowed := true, recurses := true, apart := false, narrowed := true }
def ColsOfUptoSaid : Prop := colsOfUptoRow.holds Try.pinned (OpenSpec.upto colsOfSpec)

/-- 'parquetrylaw04.ColsAll', WHERE WHAT IT READS IS OF BULK AT MOST 1048576: true; the input reads as it did. -/
def colsAllUptoRow : OpenClaim := { program := "ytgbkfjdkejjmpaa", sum := "53702ea049b42720961c92773b71a00fc39724a15f66522d505f587e5dffb904", func := "parquetry/parquetrylaw04.ColsAll", spec := "colsAll", unfollowed := true, recurses := true, apart := false, narrowed := true }
def ColsAllUptoSaid : Prop := colsAllUptoRow.holds Try.pinned (OpenSpec.upto colsAllSpec)

/-- 'parquetrylaw04.ColsSums', WHERE WHAT IT READS IS OF BULK AT MOST 1048576: true; the input reads as it did. -/
def colsSumsUptoRow : OpenClaim := { program := "ytgbkfjdkejjmpaa", sum := "53702ea049b42720961c92773b71a00fc39724a15f66522d505f587e5dffb904", func := "parquetry/parquetrylaw04.ColsSums", spec := "colsSums", unfollowed := true, recurses := true, apart := false, narrowed := true }
def ColsSumsUptoSaid : Prop := colsSumsUptoRow.holds Try.pinned (OpenSpec.upto colsSumsSpec)

/-- 'parquetrylaw04.ColsPlain', WHERE WHAT IT READS IS OF BULK AT MOST 1048576: true; the input reads as it did. -/
def colsPlainUptoRow : OpenClaim := { program := "ytgbkfjdkejjmpaa", sum := "53702ea049b42720961c92773b71a00fc39724a15f66522d505f587e5dffb904", func := "parquetry/parquetrylaw04.ColsPlain", spec := "colsPlain", unfollowed := true, recurses := true, apart := false, narrowed := true }
def ColsPlainUptoSaid : Prop := colsPlainUptoRow.holds Try.pinned (OpenSpec.upto colsPlainSpec)

/-- 'parquetrylaw05.GcbOf', WHERE WHAT IT READS IS OF BULK AT MOST 1048576: true; the input reads as it did. -/
def gcbOfUptoRow : OpenClaim := { program := "ytgbkfjdkejjmpaa", sum := "53702ea049b42720961c92773b71a00fc39724a15f66522d505f587e5dffb904", func := "parquetry/parquetrylaw05.GcbOf", spec := "gcbOf", unfollowed := true, recurses := true, apart := false, narrowed := true }
def GcbOfUptoSaid : Prop := gcbOfUptoRow.holds Try.pinned (OpenSpec.upto gcbOfSpec)

/-- 'parquetrylaw05.GcbRuns', WHERE WHAT IT READS IS OF BULK AT MOST 1048576: true; the input reads as it did. -/
def gcbRunsUptoRow : OpenClaim := { program := "ytgbkfjdkejjmpaa", sum := "53702ea049b42720961c92773b71a00fc39724a15f66522d505f587e5dffb904", func := "parquetry/parquetrylaw05.GcbRuns", spec := "gcbRuns", unfollowed := true, recurses := true, apart := false, narrowed := true }
def GcbRunsUptoSaid : Prop := gcbRunsUptoRow.holds Try.pinned (OpenSpec.upto gcbRunsSpec)

/-- 'parquetrylaw05.GcbSyllables', WHERE WHAT IT READS IS OF BULK AT MOST 1048576: true; the input reads as it did. -/
def gcbSyllablesUptoRow : OpenClaim := { program := "ytgbkfjdkejjmpaa", sum := "53702ea049b42720961c92773b71a00fc39724a15f66522d505f587e5dffb904", func := "parquetry/parquetrylaw05.GcbSyllables", spec := "gcbSyllables", unfollowed := true, recurses := true, apart := false, narrowed := true }
def GcbSyllablesUptoSaid : Prop := gcbSyllablesUptoRow.holds Try.pinned (OpenSpec.upto gcbSyllablesSpec)

/-- 'parquetrylaw05.GcbCounts', WHERE WHAT IT READS IS OF BULK AT MOST 1048576: true; the input reads as it did. -/
def gcbCountsUptoRow : OpenClaim := { program := "ytgbkfjdkejjmpaa", sum := "53702ea049b42720961c92773b71a00fc39724a15f66522d505f587e5dffb904", func := "parquetry/parquetrylaw05.GcbCounts", spec := "gcbCounts", unfollowed := true, recurses := true, apart := false, narrowed := true }
def GcbCountsUptoSaid : Prop := gcbCountsUptoRow.holds Try.pinned (OpenSpec.upto gcbCountsSpec)

/-- 'parquetrylaw06.ClusterCut', WHERE WHAT IT READS IS OF BULK AT MOST 1048576: true; the input reads as it did. -/
def clusterCutUptoRow : OpenClaim := { program := "ytgbkfjdkejjmpaa", sum := "53702ea049b42720961c92773b71a00fc39724a15f66522d505f587e5dffb904", func := "parquetry/parquetrylaw06.ClusterCut", spec := "clusterCut", unfollowed := true, recurses := true, apart := false, narrowed := true }
def ClusterCutUptoSaid : Prop := clusterCutUptoRow.holds Try.pinned (OpenSpec.upto clusterCutSpec)

/-- 'parquetrylaw06.ClusterOf', WHERE WHAT IT READS IS OF BULK AT MOST 1048576: true; the input reads as it did. -/
def clusterOfUptoRow : OpenClaim := { program := "ytgbkfjdkejjmpaa", sum := "53702ea049b42720961c92773b71a00fc39724a15f66522d505f587e5dffb904", func := "parquetry/parquetrylaw06.ClusterOf", spec := "clusterOf", unfollowed := true, recurses := true, apart := false, narrowed := true }
def ClusterOfUptoSaid : Prop := clusterOfUptoRow.holds Try.pinned (OpenSpec.upto clusterOfSpec)

/-- 'parquetrylaw06.ClusterSplit', WHERE WHAT IT READS IS OF BULK AT MOST 1048576: true; the input reads as it did. -/
def clusterSplitUptoRow : OpenClaim := { program := "ytgbkfjdkejjmpaa", sum := "53702ea049b42720961c92773b71a00fc39724a15f66522d505f587e5dffb904", func := "parquetry/parquetrylaw06.ClusterSplit", spec := "clusterSplit", unfollowed := true, recurses := true, apart := false, narrowed := true }
def ClusterSplitUptoSaid : Prop := clusterSplitUptoRow.holds Try.pinned (OpenSpec.upto clusterSplitSpec)

/-- 'parquetrylaw06.ClusterFind', WHERE WHAT IT READS IS OF BULK AT MOST 1048576: true; the input reads as it did. -/
def clusterFindUptoRow : OpenClaim := { program := "ytgbkfjdkejjmpaa", sum := "53702ea049b42720961c92773b71a00fc39724a15f66522d505f587e5dffb904", func := "parquetry/parquetrylaw06.ClusterFind", spec := "clusterFind", unfollowed := true, recurses := true, apart := false, narrowed := true }
def ClusterFindUptoSaid : Prop := clusterFindUptoRow.holds Try.pinned (OpenSpec.upto clusterFindSpec)

/-- 'parquetrylaw06.ClusterWhole', WHERE WHAT IT READS IS OF BULK AT MOST 1048576: true; the input reads as it did. -/
def clusterWholeUptoRow : OpenClaim := { program := "ytgbkfjdkejjmpaa", sum := "53702ea049b42720961c92773b71a00fc39724a15f66522d505f587e5dffb904", func := "parquetry/parquetrylaw06.ClusterWhole", spec := "clusterWhole", unfollowed := true, recurses := true, apart := false, narrowed := true }
def ClusterWholeUptoSaid : Prop := clusterWholeUptoRow.holds Try.pinned (OpenSpec.upto clusterWholeSpec)

end Rows
end Go.Proofs.Ytgbkfjdkejjmpaa
