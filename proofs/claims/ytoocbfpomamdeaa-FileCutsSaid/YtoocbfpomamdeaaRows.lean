/-
  No cell of these rows narrows 'for every input' (looked for: loops, veiled, ifaces, maps, wideKeys, modest, calm, conditions, laid).
  DERIVED. THE GIVEN ROWS OF THIS SEAT. 5 by the template 'for every input the law returns true; each argument reads behind the call as it read before'; 0 by the template 'total and deterministic' (their statements: YtoocbfpomamdeaaTotals.lean).
  GIVEN WITH THE SEED: the statements are not yours to turn. If you find one false, say at which input.
  Laid BY PROGRAM, IN A SANDBOX (cutbox-rows.mjs): the forced cells as the released guide's own fill.sh prints them over the translation 03101bbe1aa07804… (all of the seat's roots in one cut). By AI agents, Wed Nov 11 2026. No macro, syntax, notation, axiom, sorry.
-/
import Derived.Test.YtoocbfpomamdeaaChecked
import GoSem.Claim
import GoSem.ClaimJoined
import GoSem.ClaimMapViews
import Derived.JoinedTies
import Derived.KernelRfl
namespace Go.Proofs.Ytoocbfpomamdeaa
/- THE CELL 'sum', in the pinned program and in every row, IS THE sha256 OF THE DUMP (.gsa) THAT YtoocbfpomamdeaaProg.lean LOADS. Nothing in Lean hashes anything: it is a label: what it is worth is what the hold of that sum in a sandbox is worth. -/
noncomputable def Try.pinned : Pinned := { name := "ytoocbfpomamdeaa", sum := "03101bbe1aa07804d77db7b22203333bee378bf35fc7bb6725e6d6f9e26055a5", checked := Try.checked }
namespace Rows
def none {H : Type} : Left H := { results := [], args := [] }

/-- 'parcloselaw20.FileNeeds': WHATEVER THE INPUT: true; the input reads as it did. -/
def fileNeedsSpec : ChangeSpec := { name := "fileNeeds", fn := fun _ => fun
  | [d1, d2, d3, d4] => { results := [.lit (.bool true)], args := [d1, d2, d3, d4] }
  | _ => none }
def fileNeedsRow : OpenClaim := { program := "ytoocbfpomamdeaa", sum := "03101bbe1aa07804d77db7b22203333bee378bf35fc7bb6725e6d6f9e26055a5", func := "parclose/parcloselaw20.FileNeeds", spec := "fileNeeds", unfollowed := true, recurses := true, apart := false }
def FileNeedsSaid : Prop := fileNeedsRow.holds Try.pinned (OpenSpec.ofChange fileNeedsSpec)

/-- ITS FALSE NEIGHBOUR: 'it returns false'. Refute it at one input. -/
def fileNeedsWrong : ChangeSpec := { name := "fileNeeds", fn := fun _ => fun
  | [d1, d2, d3, d4] => { results := [.lit (.bool false)], args := [d1, d2, d3, d4] }
  | _ => none }
def FileNeedsWrongFalsely : Prop := fileNeedsRow.holds Try.pinned (OpenSpec.ofChange fileNeedsWrong)

/-- 'parcloselaw20.FileMerges': WHATEVER THE INPUT: true; the input reads as it did. -/
def fileMergesSpec : ChangeSpec := { name := "fileMerges", fn := fun _ => fun
  | [d1, d2, d3] => { results := [.lit (.bool true)], args := [d1, d2, d3] }
  | _ => none }
def fileMergesRow : OpenClaim := { program := "ytoocbfpomamdeaa", sum := "03101bbe1aa07804d77db7b22203333bee378bf35fc7bb6725e6d6f9e26055a5", func := "parclose/parcloselaw20.FileMerges", spec := "fileMerges", unfollowed := true, recurses := true, apart := false }
def FileMergesSaid : Prop := fileMergesRow.holds Try.pinned (OpenSpec.ofChange fileMergesSpec)

/-- ITS FALSE NEIGHBOUR: 'it returns false'. Refute it at one input. -/
def fileMergesWrong : ChangeSpec := { name := "fileMerges", fn := fun _ => fun
  | [d1, d2, d3] => { results := [.lit (.bool false)], args := [d1, d2, d3] }
  | _ => none }
def FileMergesWrongFalsely : Prop := fileMergesRow.holds Try.pinned (OpenSpec.ofChange fileMergesWrong)

/-- 'parcloselaw20.FileCuts': WHATEVER THE INPUT: true; the input reads as it did. -/
def fileCutsSpec : ChangeSpec := { name := "fileCuts", fn := fun _ => fun
  | [d1, d2] => { results := [.lit (.bool true)], args := [d1, d2] }
  | _ => none }
def fileCutsRow : OpenClaim := { program := "ytoocbfpomamdeaa", sum := "03101bbe1aa07804d77db7b22203333bee378bf35fc7bb6725e6d6f9e26055a5", func := "parclose/parcloselaw20.FileCuts", spec := "fileCuts", unfollowed := true, recurses := true, apart := false }
def FileCutsSaid : Prop := fileCutsRow.holds Try.pinned (OpenSpec.ofChange fileCutsSpec)

/-- ITS FALSE NEIGHBOUR: 'it returns false'. Refute it at one input. -/
def fileCutsWrong : ChangeSpec := { name := "fileCuts", fn := fun _ => fun
  | [d1, d2] => { results := [.lit (.bool false)], args := [d1, d2] }
  | _ => none }
def FileCutsWrongFalsely : Prop := fileCutsRow.holds Try.pinned (OpenSpec.ofChange fileCutsWrong)

/-- 'parcloselaw20.FileWhole': WHATEVER THE INPUT: true; the input reads as it did. -/
def fileWholeSpec : ChangeSpec := { name := "fileWhole", fn := fun _ => fun
  | [d1, d2, d3] => { results := [.lit (.bool true)], args := [d1, d2, d3] }
  | _ => none }
def fileWholeRow : OpenClaim := { program := "ytoocbfpomamdeaa", sum := "03101bbe1aa07804d77db7b22203333bee378bf35fc7bb6725e6d6f9e26055a5", func := "parclose/parcloselaw20.FileWhole", spec := "fileWhole", unfollowed := true, recurses := true, apart := false }
def FileWholeSaid : Prop := fileWholeRow.holds Try.pinned (OpenSpec.ofChange fileWholeSpec)

/-- ITS FALSE NEIGHBOUR: 'it returns false'. Refute it at one input. -/
def fileWholeWrong : ChangeSpec := { name := "fileWhole", fn := fun _ => fun
  | [d1, d2, d3] => { results := [.lit (.bool false)], args := [d1, d2, d3] }
  | _ => none }
def FileWholeWrongFalsely : Prop := fileWholeRow.holds Try.pinned (OpenSpec.ofChange fileWholeWrong)

/-- 'parcloselaw20.FileTwice': WHATEVER THE INPUT: true; the input reads as it did. -/
def fileTwiceSpec : ChangeSpec := { name := "fileTwice", fn := fun _ => fun
  | [d1, d2, d3] => { results := [.lit (.bool true)], args := [d1, d2, d3] }
  | _ => none }
def fileTwiceRow : OpenClaim := { program := "ytoocbfpomamdeaa", sum := "03101bbe1aa07804d77db7b22203333bee378bf35fc7bb6725e6d6f9e26055a5", func := "parclose/parcloselaw20.FileTwice", spec := "fileTwice", unfollowed := true, recurses := true, apart := false }
def FileTwiceSaid : Prop := fileTwiceRow.holds Try.pinned (OpenSpec.ofChange fileTwiceSpec)

/-- ITS FALSE NEIGHBOUR: 'it returns false'. Refute it at one input. -/
def fileTwiceWrong : ChangeSpec := { name := "fileTwice", fn := fun _ => fun
  | [d1, d2, d3] => { results := [.lit (.bool false)], args := [d1, d2, d3] }
  | _ => none }
def FileTwiceWrongFalsely : Prop := fileTwiceRow.holds Try.pinned (OpenSpec.ofChange fileTwiceWrong)

/- THE SECOND FORM. 'bulk': how many values and letters a reading holds, each counted each time it is reached (what is shared counts as often as it is met; a slice's spare places count too). A statement '..UptoSaid' is the law's where the arguments, and the package variables that the reading takes, are together of bulk at most 1048576: NARROWER than '..Said'. Prove '..Said' where nothing that the law and all that it calls make is longer than what came in: it says more and counts as full. Else prove '..UptoSaid'. A law counts once. -/
mutual
def uptoBulk {H : Type} : DataW H → Nat
  | .lit (.string bytes) => bytes.length + 1
  | .lit _ => 1
  | .nil => 1
  | .ptr d => uptoBulk d + 1
  | .slice elems spare => uptoBulkAll elems + uptoBulkAll spare + 1
  | .agg parts => uptoBulkAll parts + 1
  | .iface _ d => uptoBulk d + 1
  | .map entries => uptoBulkEntries entries + 1
  | .held _ => 1
def uptoBulkAll {H : Type} : List (DataW H) → Nat
  | [] => 0
  | d :: r => uptoBulk d + uptoBulkAll r
def uptoBulkEntries {H : Type} : List (Lit × DataW H) → Nat
  | [] => 0
  | x :: r => uptoBulkEntry x + uptoBulkEntries r
def uptoBulkEntry {H : Type} : Lit × DataW H → Nat
  | (.string bytes, d) => bytes.length + uptoBulk d + 1
  | (_, d) => uptoBulk d + 1
 end
def uptoSmall : (H : Type) → List (DataW H) → Bool := fun _ ds => decide (uptoBulkAll ds ≤ 1048576)
def OpenSpec.upto (s : _root_.Go.ChangeSpec) : _root_.Go.OpenSpec := { _root_.Go.OpenSpec.ofChange s with cond := some uptoSmall }

/-- 'parcloselaw20.FileNeeds', WHERE WHAT IT READS IS OF BULK AT MOST 1048576: true; the input reads as it did. -/
def fileNeedsUptoRow : OpenClaim := { program := "ytoocbfpomamdeaa", sum := "03101bbe1aa07804d77db7b22203333bee378bf35fc7bb6725e6d6f9e26055a5", func := "parclose/parcloselaw20.FileNeeds", spec := "fileNeeds", unfollowed := true, recurses := true, apart := false, narrowed := true }
def FileNeedsUptoSaid : Prop := fileNeedsUptoRow.holds Try.pinned (OpenSpec.upto fileNeedsSpec)

/-- 'parcloselaw20.FileMerges', WHERE WHAT IT READS IS OF BULK AT MOST 1048576: true; the input reads as it did. -/
def fileMergesUptoRow : OpenClaim := { program := "ytoocbfpomamdeaa", sum := "03101bbe1aa07804d77db7b22203333bee378bf35fc7bb6725e6d6f9e26055a5", func := "parclose/parcloselaw20.FileMerges", spec := "fileMerges", unfollowed := true, recurses := true, apart := false, narrowed := true }
def FileMergesUptoSaid : Prop := fileMergesUptoRow.holds Try.pinned (OpenSpec.upto fileMergesSpec)

/-- 'parcloselaw20.FileCuts', WHERE WHAT IT READS IS OF BULK AT MOST 1048576: true; the input reads as it did. -/
def fileCutsUptoRow : OpenClaim := { program := "ytoocbfpomamdeaa", sum := "03101bbe1aa07804d77db7b22203333bee378bf35fc7bb6725e6d6f9e26055a5", func := "parclose/parcloselaw20.FileCuts", spec := "fileCuts", unfollowed := true, recurses := true, apart := false, narrowed := true }
def FileCutsUptoSaid : Prop := fileCutsUptoRow.holds Try.pinned (OpenSpec.upto fileCutsSpec)

/-- 'parcloselaw20.FileWhole', WHERE WHAT IT READS IS OF BULK AT MOST 1048576: true; the input reads as it did. -/
def fileWholeUptoRow : OpenClaim := { program := "ytoocbfpomamdeaa", sum := "03101bbe1aa07804d77db7b22203333bee378bf35fc7bb6725e6d6f9e26055a5", func := "parclose/parcloselaw20.FileWhole", spec := "fileWhole", unfollowed := true, recurses := true, apart := false, narrowed := true }
def FileWholeUptoSaid : Prop := fileWholeUptoRow.holds Try.pinned (OpenSpec.upto fileWholeSpec)

/-- 'parcloselaw20.FileTwice', WHERE WHAT IT READS IS OF BULK AT MOST 1048576: true; the input reads as it did. -/
def fileTwiceUptoRow : OpenClaim := { program := "ytoocbfpomamdeaa", sum := "03101bbe1aa07804d77db7b22203333bee378bf35fc7bb6725e6d6f9e26055a5", func := "parclose/parcloselaw20.FileTwice", spec := "fileTwice", unfollowed := true, recurses := true, apart := false, narrowed := true }
def FileTwiceUptoSaid : Prop := fileTwiceUptoRow.holds Try.pinned (OpenSpec.upto fileTwiceSpec)

end Rows
end Go.Proofs.Ytoocbfpomamdeaa
