/-
  No cell of these rows narrows 'for every input' (looked for: loops, veiled, ifaces, maps, wideKeys, modest, calm, conditions, laid).
  DERIVED. THE GIVEN ROWS OF THIS SEAT. 5 by the template 'for every input the law returns true; each argument reads behind the call as it read before'; 0 by the template 'total and deterministic' (their statements: YtjampjbhaekjbaaTotals.lean).
  GIVEN WITH THE SEED: the statements are not yours to turn. If you find one false, say at which input.
  Laid BY PROGRAM, IN A SANDBOX (cutbox-rows.mjs): the forced cells as the released guide's own fill.sh prints them over the translation df7dc70bf8f02015… (all of the seat's roots in one cut). By AI agents, Wed Nov 11 2026. No macro, syntax, notation, axiom, sorry.
-/
import Derived.Test.YtjampjbhaekjbaaChecked
import GoSem.Claim
import GoSem.ClaimJoined
import GoSem.ClaimMapViews
import Derived.JoinedTies
import Derived.KernelRfl
namespace Go.Proofs.Ytjampjbhaekjbaa
/- THE CELL 'sum', in the pinned program and in every row, IS THE sha256 OF THE DUMP (.gsa) THAT YtjampjbhaekjbaaProg.lean LOADS. Nothing in Lean hashes anything: it is a label: what it is worth is what the hold of that sum in a sandbox is worth. -/
noncomputable def Try.pinned : Pinned := { name := "ytjampjbhaekjbaa", sum := "df7dc70bf8f0201511c6a61179dcc16e9c87e7f50eecb3f38f6b47b17d948e84", checked := Try.checked }
namespace Rows
def none {H : Type} : Left H := { results := [], args := [] }

/-- 'parcloselaw12.GrantTells': WHATEVER THE INPUT: true; the input reads as it did. -/
def grantTellsSpec : ChangeSpec := { name := "grantTells", fn := fun _ => fun
  | [d1, d2, d3, d4, d5] => { results := [.lit (.bool true)], args := [d1, d2, d3, d4, d5] }
  | _ => none }
def grantTellsRow : OpenClaim := { program := "ytjampjbhaekjbaa", sum := "df7dc70bf8f0201511c6a61179dcc16e9c87e7f50eecb3f38f6b47b17d948e84", func := "parclose/parcloselaw12.GrantTells", spec := "grantTells", inPlace := ["internal/bytealg.IndexByteString", "internal/bytealg.IndexString"], unfollowed := true, recurses := true, named := ["internal/bytealg.MaxLen"], apart := false }
def GrantTellsSaid : Prop := grantTellsRow.holds Try.pinned (OpenSpec.ofChange grantTellsSpec)

/-- ITS FALSE NEIGHBOUR: 'it returns false'. Refute it at one input. -/
def grantTellsWrong : ChangeSpec := { name := "grantTells", fn := fun _ => fun
  | [d1, d2, d3, d4, d5] => { results := [.lit (.bool false)], args := [d1, d2, d3, d4, d5] }
  | _ => none }
def GrantTellsWrongFalsely : Prop := grantTellsRow.holds Try.pinned (OpenSpec.ofChange grantTellsWrong)

/-- 'parcloselaw12.GrantLess': WHATEVER THE INPUT: true; the input reads as it did. -/
def grantLessSpec : ChangeSpec := { name := "grantLess", fn := fun _ => fun
  | [d1, d2, d3, d4, d5] => { results := [.lit (.bool true)], args := [d1, d2, d3, d4, d5] }
  | _ => none }
def grantLessRow : OpenClaim := { program := "ytjampjbhaekjbaa", sum := "df7dc70bf8f0201511c6a61179dcc16e9c87e7f50eecb3f38f6b47b17d948e84", func := "parclose/parcloselaw12.GrantLess", spec := "grantLess", inPlace := ["internal/bytealg.IndexByteString", "internal/bytealg.IndexString"], unfollowed := true, recurses := true, named := ["internal/bytealg.MaxLen"], apart := false }
def GrantLessSaid : Prop := grantLessRow.holds Try.pinned (OpenSpec.ofChange grantLessSpec)

/-- ITS FALSE NEIGHBOUR: 'it returns false'. Refute it at one input. -/
def grantLessWrong : ChangeSpec := { name := "grantLess", fn := fun _ => fun
  | [d1, d2, d3, d4, d5] => { results := [.lit (.bool false)], args := [d1, d2, d3, d4, d5] }
  | _ => none }
def GrantLessWrongFalsely : Prop := grantLessRow.holds Try.pinned (OpenSpec.ofChange grantLessWrong)

/-- 'parcloselaw12.GrantClass': WHATEVER THE INPUT: true; the input reads as it did. -/
def grantClassSpec : ChangeSpec := { name := "grantClass", fn := fun _ => fun
  | [d1, d2, d3, d4] => { results := [.lit (.bool true)], args := [d1, d2, d3, d4] }
  | _ => none }
def grantClassRow : OpenClaim := { program := "ytjampjbhaekjbaa", sum := "df7dc70bf8f0201511c6a61179dcc16e9c87e7f50eecb3f38f6b47b17d948e84", func := "parclose/parcloselaw12.GrantClass", spec := "grantClass", inPlace := ["internal/bytealg.IndexByteString", "internal/bytealg.IndexString"], unfollowed := true, recurses := true, named := ["internal/bytealg.MaxLen"], apart := false }
def GrantClassSaid : Prop := grantClassRow.holds Try.pinned (OpenSpec.ofChange grantClassSpec)

/-- ITS FALSE NEIGHBOUR: 'it returns false'. Refute it at one input. -/
def grantClassWrong : ChangeSpec := { name := "grantClass", fn := fun _ => fun
  | [d1, d2, d3, d4] => { results := [.lit (.bool false)], args := [d1, d2, d3, d4] }
  | _ => none }
def GrantClassWrongFalsely : Prop := grantClassRow.holds Try.pinned (OpenSpec.ofChange grantClassWrong)

/-- 'parcloselaw12.GrantGroups': WHATEVER THE INPUT: true; the input reads as it did. -/
def grantGroupsSpec : ChangeSpec := { name := "grantGroups", fn := fun _ => fun
  | [d1, d2, d3, d4, d5] => { results := [.lit (.bool true)], args := [d1, d2, d3, d4, d5] }
  | _ => none }
def grantGroupsRow : OpenClaim := { program := "ytjampjbhaekjbaa", sum := "df7dc70bf8f0201511c6a61179dcc16e9c87e7f50eecb3f38f6b47b17d948e84", func := "parclose/parcloselaw12.GrantGroups", spec := "grantGroups", inPlace := ["internal/bytealg.IndexByteString", "internal/bytealg.IndexString"], unfollowed := true, recurses := true, named := ["internal/bytealg.MaxLen"], apart := false }
def GrantGroupsSaid : Prop := grantGroupsRow.holds Try.pinned (OpenSpec.ofChange grantGroupsSpec)

/-- ITS FALSE NEIGHBOUR: 'it returns false'. Refute it at one input. -/
def grantGroupsWrong : ChangeSpec := { name := "grantGroups", fn := fun _ => fun
  | [d1, d2, d3, d4, d5] => { results := [.lit (.bool false)], args := [d1, d2, d3, d4, d5] }
  | _ => none }
def GrantGroupsWrongFalsely : Prop := grantGroupsRow.holds Try.pinned (OpenSpec.ofChange grantGroupsWrong)

/-- 'parcloselaw12.GrantOther': WHATEVER THE INPUT: true; the input reads as it did. -/
def grantOtherSpec : ChangeSpec := { name := "grantOther", fn := fun _ => fun
  | [d1, d2, d3, d4, d5] => { results := [.lit (.bool true)], args := [d1, d2, d3, d4, d5] }
  | _ => none }
def grantOtherRow : OpenClaim := { program := "ytjampjbhaekjbaa", sum := "df7dc70bf8f0201511c6a61179dcc16e9c87e7f50eecb3f38f6b47b17d948e84", func := "parclose/parcloselaw12.GrantOther", spec := "grantOther", inPlace := ["internal/bytealg.IndexByteString", "internal/bytealg.IndexString"], unfollowed := true, recurses := true, named := ["internal/bytealg.MaxLen"], apart := false }
def GrantOtherSaid : Prop := grantOtherRow.holds Try.pinned (OpenSpec.ofChange grantOtherSpec)

/-- ITS FALSE NEIGHBOUR: 'it returns false'. Refute it at one input. -/
def grantOtherWrong : ChangeSpec := { name := "grantOther", fn := fun _ => fun
  | [d1, d2, d3, d4, d5] => { results := [.lit (.bool false)], args := [d1, d2, d3, d4, d5] }
  | _ => none }
def GrantOtherWrongFalsely : Prop := grantOtherRow.holds Try.pinned (OpenSpec.ofChange grantOtherWrong)

/- THE SECOND FORM. 'bulk': how many values and letters a reading holds, each counted each time it is reached (what is shared counts as often as it is met; a slice's spare places count too). A statement '..UptoSaid' is the law's where the arguments, and the package variables that the reading takes, are together of bulk at most 1048576: NARROWER than '..Said'. Prove '..Said' where nothing that the law and all that it calls make is longer than what came in: it says more and counts as full. Else prove '..UptoSaid'. A law counts once. -/
mutual
def uptoBulk {H : Type} : DataW H → Nat
  | .lit (.string bytes) => bytes.length + 1
  | .lit _ => 1
  | .nil => 1
  | .ptr d => uptoBulk d + 1
  | .slice elems spare => uptoBulkAll elems + uptoBulkAll spare + 1
  | .agg parts => uptoBulkAll parts + 1
  | .iface _ d => uptoBulk d + 1
  | .map entries => uptoBulkEntries entries + 1
  | .held _ => 1
def uptoBulkAll {H : Type} : List (DataW H) → Nat
  | [] => 0
  | d :: r => uptoBulk d + uptoBulkAll r
def uptoBulkEntries {H : Type} : List (Lit × DataW H) → Nat
  | [] => 0
  | x :: r => uptoBulkEntry x + uptoBulkEntries r
def uptoBulkEntry {H : Type} : Lit × DataW H → Nat
  | (.string bytes, d) => bytes.length + uptoBulk d + 1
  | (_, d) => uptoBulk d + 1
 end
def uptoSmall : (H : Type) → List (DataW H) → Bool := fun _ ds => decide (uptoBulkAll ds ≤ 1048576)
def OpenSpec.upto (s : _root_.Go.ChangeSpec) : _root_.Go.OpenSpec := { _root_.Go.OpenSpec.ofChange s with cond := some uptoSmall }

/-- 'parcloselaw12.GrantTells', WHERE WHAT IT READS IS OF BULK AT MOST 1048576: true; the input reads as it did. -/
def grantTellsUptoRow : OpenClaim := { program := "ytjampjbhaekjbaa", sum := "df7dc70bf8f0201511c6a61179dcc16e9c87e7f50eecb3f38f6b47b17d948e84", func := "parclose/parcloselaw12.GrantTells", spec := "grantTells", inPlace := ["internal/bytealg.IndexByteString", "internal/bytealg.IndexString"], unfollowed := true, recurses := true, named := ["internal/bytealg.MaxLen"], apart := false, narrowed := true }
def GrantTellsUptoSaid : Prop := grantTellsUptoRow.holds Try.pinned (OpenSpec.upto grantTellsSpec)

/-- 'parcloselaw12.GrantLess', WHERE WHAT IT READS IS OF BULK AT MOST 1048576: true; the input reads as it did. -/
def grantLessUptoRow : OpenClaim := { program := "ytjampjbhaekjbaa", sum := "df7dc70bf8f0201511c6a61179dcc16e9c87e7f50eecb3f38f6b47b17d948e84", func := "parclose/parcloselaw12.GrantLess", spec := "grantLess", inPlace := ["internal/bytealg.IndexByteString", "internal/bytealg.IndexString"], unfollowed := true, recurses := true, named := ["internal/bytealg.MaxLen"], apart := false, narrowed := true }
def GrantLessUptoSaid : Prop := grantLessUptoRow.holds Try.pinned (OpenSpec.upto grantLessSpec)

/-- 'parcloselaw12.GrantClass', WHERE WHAT IT READS IS OF BULK AT MOST 1048576: true; the input reads as it did. -/
def grantClassUptoRow : OpenClaim := { program := "ytjampjbhaekjbaa", sum := "df7dc70bf8f0201511c6a61179dcc16e9c87e7f50eecb3f38f6b47b17d948e84", func := "parclose/parcloselaw12.GrantClass", spec := "grantClass", inPlace := ["internal/bytealg.IndexByteString", "internal/bytealg.IndexString"], unfollowed := true, recurses := true, named := ["internal/bytealg.MaxLen"], apart := false, narrowed := true }
def GrantClassUptoSaid : Prop := grantClassUptoRow.holds Try.pinned (OpenSpec.upto grantClassSpec)

/-- 'parcloselaw12.GrantGroups', WHERE WHAT IT READS IS OF BULK AT MOST 1048576: true; the input reads as it did. -/
def grantGroupsUptoRow : OpenClaim := { program := "ytjampjbhaekjbaa", sum := "df7dc70bf8f0201511c6a61179dcc16e9c87e7f50eecb3f38f6b47b17d948e84", func := "parclose/parcloselaw12.GrantGroups", spec := "grantGroups", inPlace := ["internal/bytealg.IndexByteString", "internal/bytealg.IndexString"], unfollowed := true, recurses := true, named := ["internal/bytealg.MaxLen"], apart := false, narrowed := true }
def GrantGroupsUptoSaid : Prop := grantGroupsUptoRow.holds Try.pinned (OpenSpec.upto grantGroupsSpec)

/-- 'parcloselaw12.GrantOther', WHERE WHAT IT READS IS OF BULK AT MOST 1048576: true; the input reads as it did. -/
def grantOtherUptoRow : OpenClaim := { program := "ytjampjbhaekjbaa", sum := "df7dc70bf8f0201511c6a61179dcc16e9c87e7f50eecb3f38f6b47b17d948e84", func := "parclose/parcloselaw12.GrantOther", spec := "grantOther", inPlace := ["internal/bytealg.IndexByteString", "internal/bytealg.IndexString"], unfollowed := true, recurses := true, named := ["internal/bytealg.MaxLen"], apart := false, narrowed := true }
def GrantOtherUptoSaid : Prop := grantOtherUptoRow.holds Try.pinned (OpenSpec.upto grantOtherSpec)

end Rows
end Go.Proofs.Ytjampjbhaekjbaa
