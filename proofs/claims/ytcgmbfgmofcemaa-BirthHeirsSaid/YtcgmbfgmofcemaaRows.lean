/-
  No cell of these rows narrows 'for every input' (looked for: loops, veiled, ifaces, maps, wideKeys, modest, calm, conditions, laid).
  DERIVED. THE GIVEN ROWS OF THIS SEAT. 5 by the template 'for every input the law returns true; each argument reads behind the call as it read before'; 0 by the template 'total and deterministic' (their statements: YtcgmbfgmofcemaaTotals.lean).
  GIVEN WITH THE SEED: the statements are not yours to turn. If you find one false, say at which input.
  Laid BY PROGRAM, IN A SANDBOX (cutbox-rows.mjs): the forced cells as the released guide's own fill.sh prints them over the translation bd51fe25743d9c9b… (all of the seat's roots in one cut). By AI agents, Wed Nov 11 2026. No macro, syntax, notation, axiom, sorry.
-/
import Derived.Test.YtcgmbfgmofcemaaChecked
import GoSem.Claim
import GoSem.ClaimJoined
import GoSem.ClaimMapViews
import Derived.JoinedTies
import Derived.KernelRfl
namespace Go.Proofs.Ytcgmbfgmofcemaa
/- THE CELL 'sum', in the pinned program and in every row, IS THE sha256 OF THE DUMP (.gsa) THAT YtcgmbfgmofcemaaProg.lean LOADS. Nothing in Lean hashes anything: it is a label: what it is worth is what the hold of that sum in a sandbox is worth. -/
noncomputable def Try.pinned : Pinned := { name := "ytcgmbfgmofcemaa", sum := "bd51fe25743d9c9bd3f62d2aeaf1b4bc15a43310b6de267460836176cd9a3f4a", checked := Try.checked }
namespace Rows
def none {H : Type} : Left H := { results := [], args := [] }

/-- 'parcloselaw14.BirthNew': WHATEVER THE INPUT: true; the input reads as it did. -/
def birthNewSpec : ChangeSpec := { name := "birthNew", fn := fun _ => fun
  | [d1, d2, d3, d4, d5] => { results := [.lit (.bool true)], args := [d1, d2, d3, d4, d5] }
  | _ => none }
def birthNewRow : OpenClaim := { program := "ytcgmbfgmofcemaa", sum := "bd51fe25743d9c9bd3f62d2aeaf1b4bc15a43310b6de267460836176cd9a3f4a", func := "parclose/parcloselaw14.BirthNew", spec := "birthNew", inPlace := ["internal/bytealg.IndexByteString", "internal/bytealg.IndexString"], unfollowed := true, recurses := true, named := ["internal/bytealg.MaxLen"], apart := false }
def BirthNewSaid : Prop := birthNewRow.holds Try.pinned (OpenSpec.ofChange birthNewSpec)

/-- ITS FALSE NEIGHBOUR: 'it returns false'. Refute it at one input. -/
def birthNewWrong : ChangeSpec := { name := "birthNew", fn := fun _ => fun
  | [d1, d2, d3, d4, d5] => { results := [.lit (.bool false)], args := [d1, d2, d3, d4, d5] }
  | _ => none }
def BirthNewWrongFalsely : Prop := birthNewRow.holds Try.pinned (OpenSpec.ofChange birthNewWrong)

/-- 'parcloselaw14.BirthLess': WHATEVER THE INPUT: true; the input reads as it did. -/
def birthLessSpec : ChangeSpec := { name := "birthLess", fn := fun _ => fun
  | [d1, d2, d3, d4, d5] => { results := [.lit (.bool true)], args := [d1, d2, d3, d4, d5] }
  | _ => none }
def birthLessRow : OpenClaim := { program := "ytcgmbfgmofcemaa", sum := "bd51fe25743d9c9bd3f62d2aeaf1b4bc15a43310b6de267460836176cd9a3f4a", func := "parclose/parcloselaw14.BirthLess", spec := "birthLess", inPlace := ["internal/bytealg.IndexByteString", "internal/bytealg.IndexString"], unfollowed := true, recurses := true, named := ["internal/bytealg.MaxLen"], apart := false }
def BirthLessSaid : Prop := birthLessRow.holds Try.pinned (OpenSpec.ofChange birthLessSpec)

/-- ITS FALSE NEIGHBOUR: 'it returns false'. Refute it at one input. -/
def birthLessWrong : ChangeSpec := { name := "birthLess", fn := fun _ => fun
  | [d1, d2, d3, d4, d5] => { results := [.lit (.bool false)], args := [d1, d2, d3, d4, d5] }
  | _ => none }
def BirthLessWrongFalsely : Prop := birthLessRow.holds Try.pinned (OpenSpec.ofChange birthLessWrong)

/-- 'parcloselaw14.BirthHeirs': WHATEVER THE INPUT: true; the input reads as it did. -/
def birthHeirsSpec : ChangeSpec := { name := "birthHeirs", fn := fun _ => fun
  | [d1, d2, d3, d4, d5] => { results := [.lit (.bool true)], args := [d1, d2, d3, d4, d5] }
  | _ => none }
def birthHeirsRow : OpenClaim := { program := "ytcgmbfgmofcemaa", sum := "bd51fe25743d9c9bd3f62d2aeaf1b4bc15a43310b6de267460836176cd9a3f4a", func := "parclose/parcloselaw14.BirthHeirs", spec := "birthHeirs", inPlace := ["internal/bytealg.IndexByteString", "internal/bytealg.IndexString"], unfollowed := true, recurses := true, named := ["internal/bytealg.MaxLen"], apart := false }
def BirthHeirsSaid : Prop := birthHeirsRow.holds Try.pinned (OpenSpec.ofChange birthHeirsSpec)

/-- ITS FALSE NEIGHBOUR: 'it returns false'. Refute it at one input. -/
def birthHeirsWrong : ChangeSpec := { name := "birthHeirs", fn := fun _ => fun
  | [d1, d2, d3, d4, d5] => { results := [.lit (.bool false)], args := [d1, d2, d3, d4, d5] }
  | _ => none }
def BirthHeirsWrongFalsely : Prop := birthHeirsRow.holds Try.pinned (OpenSpec.ofChange birthHeirsWrong)

/-- 'parcloselaw14.BirthSet': WHATEVER THE INPUT: true; the input reads as it did. -/
def birthSetSpec : ChangeSpec := { name := "birthSet", fn := fun _ => fun
  | [d1, d2, d3] => { results := [.lit (.bool true)], args := [d1, d2, d3] }
  | _ => none }
def birthSetRow : OpenClaim := { program := "ytcgmbfgmofcemaa", sum := "bd51fe25743d9c9bd3f62d2aeaf1b4bc15a43310b6de267460836176cd9a3f4a", func := "parclose/parcloselaw14.BirthSet", spec := "birthSet", inPlace := ["internal/bytealg.IndexByteString", "internal/bytealg.IndexString"], unfollowed := true, recurses := true, named := ["internal/bytealg.MaxLen"], apart := false }
def BirthSetSaid : Prop := birthSetRow.holds Try.pinned (OpenSpec.ofChange birthSetSpec)

/-- ITS FALSE NEIGHBOUR: 'it returns false'. Refute it at one input. -/
def birthSetWrong : ChangeSpec := { name := "birthSet", fn := fun _ => fun
  | [d1, d2, d3] => { results := [.lit (.bool false)], args := [d1, d2, d3] }
  | _ => none }
def BirthSetWrongFalsely : Prop := birthSetRow.holds Try.pinned (OpenSpec.ofChange birthSetWrong)

/-- 'parcloselaw14.BirthLinks': WHATEVER THE INPUT: true; the input reads as it did. -/
def birthLinksSpec : ChangeSpec := { name := "birthLinks", fn := fun _ => fun
  | [d1, d2, d3, d4, d5, d6] => { results := [.lit (.bool true)], args := [d1, d2, d3, d4, d5, d6] }
  | _ => none }
def birthLinksRow : OpenClaim := { program := "ytcgmbfgmofcemaa", sum := "bd51fe25743d9c9bd3f62d2aeaf1b4bc15a43310b6de267460836176cd9a3f4a", func := "parclose/parcloselaw14.BirthLinks", spec := "birthLinks", inPlace := ["internal/bytealg.IndexByteString", "internal/bytealg.IndexString"], unfollowed := true, recurses := true, named := ["internal/bytealg.MaxLen"], apart := false }
def BirthLinksSaid : Prop := birthLinksRow.holds Try.pinned (OpenSpec.ofChange birthLinksSpec)

/-- ITS FALSE NEIGHBOUR: 'it returns false'. Refute it at one input. -/
def birthLinksWrong : ChangeSpec := { name := "birthLinks", fn := fun _ => fun
  | [d1, d2, d3, d4, d5, d6] => { results := [.lit (.bool false)], args := [d1, d2, d3, d4, d5, d6] }
  | _ => none }
def BirthLinksWrongFalsely : Prop := birthLinksRow.holds Try.pinned (OpenSpec.ofChange birthLinksWrong)

/- THE SECOND FORM. 'bulk': how many values and letters a reading holds, each counted each time it is reached (what is shared counts as often as it is met; a slice's spare places count too). A statement '..UptoSaid' is the law's where the arguments, and the package variables that the reading takes, are together of bulk at most 1048576: NARROWER than '..Said'. Prove '..Said' where nothing that the law and all that it calls make is longer than what came in: it says more and counts as full. Else prove '..UptoSaid'. A law counts once. -/
mutual
def uptoBulk {H : Type} : DataW H → Nat
  | .lit (.string bytes) => bytes.length + 1
  | .lit _ => 1
  | .nil => 1
  | .ptr d => uptoBulk d + 1
  | .slice elems spare => uptoBulkAll elems + uptoBulkAll spare + 1
  | .agg parts => uptoBulkAll parts + 1
  | .iface _ d => uptoBulk d + 1
  | .map entries => uptoBulkEntries entries + 1
  | .held _ => 1
def uptoBulkAll {H : Type} : List (DataW H) → Nat
  | [] => 0
  | d :: r => uptoBulk d + uptoBulkAll r
def uptoBulkEntries {H : Type} : List (Lit × DataW H) → Nat
  | [] => 0
  | x :: r => uptoBulkEntry x + uptoBulkEntries r
def uptoBulkEntry {H : Type} : Lit × DataW H → Nat
  | (.string bytes, d) => bytes.length + uptoBulk d + 1
  | (_, d) => uptoBulk d + 1
 end
def uptoSmall : (H : Type) → List (DataW H) → Bool := fun _ ds => decide (uptoBulkAll ds ≤ 1048576)
def OpenSpec.upto (s : _root_.Go.ChangeSpec) : _root_.Go.OpenSpec := { _root_.Go.OpenSpec.ofChange s with cond := some uptoSmall }

/-- 'parcloselaw14.BirthNew', WHERE WHAT IT READS IS OF BULK AT MOST 1048576: true; the input reads as it did. -/
def birthNewUptoRow : OpenClaim := { program := "ytcgmbfgmofcemaa", sum := "bd51fe25743d9c9bd3f62d2aeaf1b4bc15a43310b6de267460836176cd9a3f4a", func := "parclose/parcloselaw14.BirthNew", spec := "birthNew", inPlace := ["internal/bytealg.IndexByteString", "internal/bytealg.IndexString"], unfollowed := true, recurses := true, named := ["internal/bytealg.MaxLen"], apart := false, narrowed := true }
def BirthNewUptoSaid : Prop := birthNewUptoRow.holds Try.pinned (OpenSpec.upto birthNewSpec)

/-- 'parcloselaw14.BirthLess', WHERE WHAT IT READS IS OF BULK AT MOST 1048576: true; the input reads as it did. -/
def birthLessUptoRow : OpenClaim := { program := "ytcgmbfgmofcemaa", sum := "bd51fe25743d9c9bd3f62d2aeaf1b4bc15a43310b6de267460836176cd9a3f4a", func := "parclose/parcloselaw14.BirthLess", spec := "birthLess", inPlace := ["internal/bytealg.IndexByteString", "internal/bytealg.IndexString"], unfollowed := true, recurses := true, named := ["internal/bytealg.MaxLen"], apart := false, narrowed := true }
def BirthLessUptoSaid : Prop := birthLessUptoRow.holds Try.pinned (OpenSpec.upto birthLessSpec)

/-- 'parcloselaw14.BirthHeirs', WHERE WHAT IT READS IS OF BULK AT MOST 1048576: true; the input reads as it did. -/
def birthHeirsUptoRow : OpenClaim := { program := "ytcgmbfgmofcemaa", sum := "bd51fe25743d9c9bd3f62d2aeaf1b4bc15a43310b6de267460836176cd9a3f4a", func := "parclose/parcloselaw14.BirthHeirs", spec := "birthHeirs", inPlace := ["internal/bytealg.IndexByteString", "internal/bytealg.IndexString"], unfollowed := true, recurses := true, named := ["internal/bytealg.MaxLen"], apart := false, narrowed := true }
def BirthHeirsUptoSaid : Prop := birthHeirsUptoRow.holds Try.pinned (OpenSpec.upto birthHeirsSpec)

/-- 'parcloselaw14.BirthSet', WHERE WHAT IT READS IS OF BULK AT MOST 1048576: true; the input reads as it did. -/
def birthSetUptoRow : OpenClaim := { program := "ytcgmbfgmofcemaa", sum := "bd51fe25743d9c9bd3f62d2aeaf1b4bc15a43310b6de267460836176cd9a3f4a", func := "parclose/parcloselaw14.BirthSet", spec := "birthSet", inPlace := ["internal/bytealg.IndexByteString", "internal/bytealg.IndexString"], unfollowed := true, recurses := true, named := ["internal/bytealg.MaxLen"], apart := false, narrowed := true }
def BirthSetUptoSaid : Prop := birthSetUptoRow.holds Try.pinned (OpenSpec.upto birthSetSpec)

/-- 'parcloselaw14.BirthLinks', WHERE WHAT IT READS IS OF BULK AT MOST 1048576: true; the input reads as it did. -/
def birthLinksUptoRow : OpenClaim := { program := "ytcgmbfgmofcemaa", sum := "bd51fe25743d9c9bd3f62d2aeaf1b4bc15a43310b6de267460836176cd9a3f4a", func := "parclose/parcloselaw14.BirthLinks", spec := "birthLinks", inPlace := ["internal/bytealg.IndexByteString", "internal/bytealg.IndexString"], unfollowed := true, recurses := true, named := ["internal/bytealg.MaxLen"], apart := false, narrowed := true }
def BirthLinksUptoSaid : Prop := birthLinksUptoRow.holds Try.pinned (OpenSpec.upto birthLinksSpec)

end Rows
end Go.Proofs.Ytcgmbfgmofcemaa
