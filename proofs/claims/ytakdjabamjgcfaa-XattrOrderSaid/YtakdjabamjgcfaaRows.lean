/-
  No cell of these rows narrows 'for every input' (looked for: loops, veiled, ifaces, maps, wideKeys, modest, calm, conditions, laid).
  DERIVED. THE GIVEN ROWS OF THIS SEAT. 4 by the template 'for every input the law returns true; each argument reads behind the call as it read before'; 0 by the template 'total and deterministic' (their statements: YtakdjabamjgcfaaTotals.lean).
  GIVEN WITH THE SEED: the statements are not yours to turn. If you find one false, say at which input.
  Laid BY PROGRAM, IN A SANDBOX (cutbox-rows.mjs): the forced cells as the released guide's own fill.sh prints them over the translation 5d563d711f003f2e… (all of the seat's roots in one cut). By AI agents, Wed Nov 11 2026. No macro, syntax, notation, axiom, sorry.
-/
import Derived.Test.YtakdjabamjgcfaaChecked
import GoSem.Claim
import GoSem.ClaimJoined
import GoSem.ClaimMapViews
import Derived.JoinedTies
import Derived.KernelRfl
namespace Go.Proofs.Ytakdjabamjgcfaa
/- THE CELL 'sum', in the pinned program and in every row, IS THE sha256 OF THE DUMP (.gsa) THAT YtakdjabamjgcfaaProg.lean LOADS. Nothing in Lean hashes anything: it is a label: what it is worth is what the hold of that sum in a sandbox is worth. -/
noncomputable def Try.pinned : Pinned := { name := "ytakdjabamjgcfaa", sum := "5d563d711f003f2e0dd9bf57613785107ed6f40f89d42e0672be6cbc05aca68a", checked := Try.checked }
namespace Rows
def none {H : Type} : Left H := { results := [], args := [] }

/-- 'parcloselaw11.XattrSets': WHATEVER THE INPUT: true; the input reads as it did. -/
def xattrSetsSpec : ChangeSpec := { name := "xattrSets", fn := fun _ => fun
  | [d1, d2, d3, d4] => { results := [.lit (.bool true)], args := [d1, d2, d3, d4] }
  | _ => none }
def xattrSetsRow : OpenClaim := { program := "ytakdjabamjgcfaa", sum := "5d563d711f003f2e0dd9bf57613785107ed6f40f89d42e0672be6cbc05aca68a", func := "parclose/parcloselaw11.XattrSets", spec := "xattrSets", inPlace := ["internal/bytealg.IndexByteString", "internal/bytealg.IndexString"], unfollowed := true, recurses := true, named := ["internal/bytealg.MaxLen"], apart := false }
def XattrSetsSaid : Prop := xattrSetsRow.holds Try.pinned (OpenSpec.ofChange xattrSetsSpec)

/-- ITS FALSE NEIGHBOUR: 'it returns false'. Refute it at one input. -/
def xattrSetsWrong : ChangeSpec := { name := "xattrSets", fn := fun _ => fun
  | [d1, d2, d3, d4] => { results := [.lit (.bool false)], args := [d1, d2, d3, d4] }
  | _ => none }
def XattrSetsWrongFalsely : Prop := xattrSetsRow.holds Try.pinned (OpenSpec.ofChange xattrSetsWrong)

/-- 'parcloselaw11.XattrAsks': WHATEVER THE INPUT: true; the input reads as it did. -/
def xattrAsksSpec : ChangeSpec := { name := "xattrAsks", fn := fun _ => fun
  | [d1, d2] => { results := [.lit (.bool true)], args := [d1, d2] }
  | _ => none }
def xattrAsksRow : OpenClaim := { program := "ytakdjabamjgcfaa", sum := "5d563d711f003f2e0dd9bf57613785107ed6f40f89d42e0672be6cbc05aca68a", func := "parclose/parcloselaw11.XattrAsks", spec := "xattrAsks", inPlace := ["internal/bytealg.IndexByteString", "internal/bytealg.IndexString"], unfollowed := true, recurses := true, named := ["internal/bytealg.MaxLen"], apart := false }
def XattrAsksSaid : Prop := xattrAsksRow.holds Try.pinned (OpenSpec.ofChange xattrAsksSpec)

/-- ITS FALSE NEIGHBOUR: 'it returns false'. Refute it at one input. -/
def xattrAsksWrong : ChangeSpec := { name := "xattrAsks", fn := fun _ => fun
  | [d1, d2] => { results := [.lit (.bool false)], args := [d1, d2] }
  | _ => none }
def XattrAsksWrongFalsely : Prop := xattrAsksRow.holds Try.pinned (OpenSpec.ofChange xattrAsksWrong)

/-- 'parcloselaw11.XattrKeeps': WHATEVER THE INPUT: true; the input reads as it did. -/
def xattrKeepsSpec : ChangeSpec := { name := "xattrKeeps", fn := fun _ => fun
  | [d1, d2, d3, d4] => { results := [.lit (.bool true)], args := [d1, d2, d3, d4] }
  | _ => none }
def xattrKeepsRow : OpenClaim := { program := "ytakdjabamjgcfaa", sum := "5d563d711f003f2e0dd9bf57613785107ed6f40f89d42e0672be6cbc05aca68a", func := "parclose/parcloselaw11.XattrKeeps", spec := "xattrKeeps", inPlace := ["internal/bytealg.IndexByteString", "internal/bytealg.IndexString"], unfollowed := true, recurses := true, named := ["internal/bytealg.MaxLen"], apart := false }
def XattrKeepsSaid : Prop := xattrKeepsRow.holds Try.pinned (OpenSpec.ofChange xattrKeepsSpec)

/-- ITS FALSE NEIGHBOUR: 'it returns false'. Refute it at one input. -/
def xattrKeepsWrong : ChangeSpec := { name := "xattrKeeps", fn := fun _ => fun
  | [d1, d2, d3, d4] => { results := [.lit (.bool false)], args := [d1, d2, d3, d4] }
  | _ => none }
def XattrKeepsWrongFalsely : Prop := xattrKeepsRow.holds Try.pinned (OpenSpec.ofChange xattrKeepsWrong)

/-- 'parcloselaw11.XattrOrder': WHATEVER THE INPUT: true; the input reads as it did. -/
def xattrOrderSpec : ChangeSpec := { name := "xattrOrder", fn := fun _ => fun
  | [d1, d2, d3, d4, d5] => { results := [.lit (.bool true)], args := [d1, d2, d3, d4, d5] }
  | _ => none }
def xattrOrderRow : OpenClaim := { program := "ytakdjabamjgcfaa", sum := "5d563d711f003f2e0dd9bf57613785107ed6f40f89d42e0672be6cbc05aca68a", func := "parclose/parcloselaw11.XattrOrder", spec := "xattrOrder", inPlace := ["internal/bytealg.IndexByteString", "internal/bytealg.IndexString"], unfollowed := true, recurses := true, named := ["internal/bytealg.MaxLen"], apart := false }
def XattrOrderSaid : Prop := xattrOrderRow.holds Try.pinned (OpenSpec.ofChange xattrOrderSpec)

/-- ITS FALSE NEIGHBOUR: 'it returns false'. Refute it at one input. -/
def xattrOrderWrong : ChangeSpec := { name := "xattrOrder", fn := fun _ => fun
  | [d1, d2, d3, d4, d5] => { results := [.lit (.bool false)], args := [d1, d2, d3, d4, d5] }
  | _ => none }
def XattrOrderWrongFalsely : Prop := xattrOrderRow.holds Try.pinned (OpenSpec.ofChange xattrOrderWrong)

/- THE SECOND FORM. 'bulk': how many values and letters a reading holds, each counted each time it is reached (what is shared counts as often as it is met; a slice's spare places count too). A statement '..UptoSaid' is the law's where the arguments, and the package variables that the reading takes, are together of bulk at most 1048576: NARROWER than '..Said'. Prove '..Said' where nothing that the law and all that it calls make is longer than what came in: it says more and counts as full. Else prove '..UptoSaid'. A law counts once. -/
mutual
def uptoBulk {H : Type} : DataW H → Nat
  | .lit (.string bytes) => bytes.length + 1
  | .lit _ => 1
  | .nil => 1
  | .ptr d => uptoBulk d + 1
  | .slice elems spare => uptoBulkAll elems + uptoBulkAll spare + 1
  | .agg parts => uptoBulkAll parts + 1
  | .iface _ d => uptoBulk d + 1
  | .map entries => uptoBulkEntries entries + 1
  | .held _ => 1
def uptoBulkAll {H : Type} : List (DataW H) → Nat
  | [] => 0
  | d :: r => uptoBulk d + uptoBulkAll r
def uptoBulkEntries {H : Type} : List (Lit × DataW H) → Nat
  | [] => 0
  | x :: r => uptoBulkEntry x + uptoBulkEntries r
def uptoBulkEntry {H : Type} : Lit × DataW H → Nat
  | (.string bytes, d) => bytes.length + uptoBulk d + 1
  | (_, d) => uptoBulk d + 1
 end
def uptoSmall : (H : Type) → List (DataW H) → Bool := fun _ ds => decide (uptoBulkAll ds ≤ 1048576)
def OpenSpec.upto (s : _root_.Go.ChangeSpec) : _root_.Go.OpenSpec := { _root_.Go.OpenSpec.ofChange s with cond := some uptoSmall }

/-- 'parcloselaw11.XattrSets', WHERE WHAT IT READS IS OF BULK AT MOST 1048576: true; the input reads as it did. -/
def xattrSetsUptoRow : OpenClaim := { program := "ytakdjabamjgcfaa", sum := "5d563d711f003f2e0dd9bf57613785107ed6f40f89d42e0672be6cbc05aca68a", func := "parclose/parcloselaw11.XattrSets", spec := "xattrSets", inPlace := ["internal/bytealg.IndexByteString", "internal/bytealg.IndexString"], unfollowed := true, recurses := true, named := ["internal/bytealg.MaxLen"], apart := false, narrowed := true }
def XattrSetsUptoSaid : Prop := xattrSetsUptoRow.holds Try.pinned (OpenSpec.upto xattrSetsSpec)

/-- 'parcloselaw11.XattrAsks', WHERE WHAT IT READS IS OF BULK AT MOST 1048576: true; the input reads as it did. -/
def xattrAsksUptoRow : OpenClaim := { program := "ytakdjabamjgcfaa", sum := "5d563d711f003f2e0dd9bf57613785107ed6f40f89d42e0672be6cbc05aca68a", func := "parclose/parcloselaw11.XattrAsks", spec := "xattrAsks", inPlace := ["internal/bytealg.IndexByteString", "internal/bytealg.IndexString"], unfollowed := true, recurses := true, named := ["internal/bytealg.MaxLen"], apart := false, narrowed := true }
def XattrAsksUptoSaid : Prop := xattrAsksUptoRow.holds Try.pinned (OpenSpec.upto xattrAsksSpec)

/-- 'parcloselaw11.XattrKeeps', WHERE WHAT IT READS IS OF BULK AT MOST 1048576: true; the input reads as it did. -/
def xattrKeepsUptoRow : OpenClaim := { program := "ytakdjabamjgcfaa", sum := "5d563d711f003f2e0dd9bf57613785107ed6f40f89d42e0672be6cbc05aca68a", func := "parclose/parcloselaw11.XattrKeeps", spec := "xattrKeeps", inPlace := ["internal/bytealg.IndexByteString", "internal/bytealg.IndexString"], unfollowed := true, recurses := true, named := ["internal/bytealg.MaxLen"], apart := false, narrowed := true }
def XattrKeepsUptoSaid : Prop := xattrKeepsUptoRow.holds Try.pinned (OpenSpec.upto xattrKeepsSpec)

/-- 'parcloselaw11.XattrOrder', WHERE WHAT IT READS IS OF BULK AT MOST 1048576: true; the input reads as it did. -/
def xattrOrderUptoRow : OpenClaim := { program := "ytakdjabamjgcfaa", sum := "5d563d711f003f2e0dd9bf57613785107ed6f40f89d42e0672be6cbc05aca68a", func := "parclose/parcloselaw11.XattrOrder", spec := "xattrOrder", inPlace := ["internal/bytealg.IndexByteString", "internal/bytealg.IndexString"], unfollowed := true, recurses := true, named := ["internal/bytealg.MaxLen"], apart := false, narrowed := true }
def XattrOrderUptoSaid : Prop := xattrOrderUptoRow.holds Try.pinned (OpenSpec.upto xattrOrderSpec)

end Rows
end Go.Proofs.Ytakdjabamjgcfaa
