/-
  No cell of these rows narrows 'for every input' (looked for: loops, veiled, ifaces, maps, wideKeys, modest, calm, conditions, laid).
  DERIVED. THE GIVEN ROWS OF THIS SEAT. 5 by the template 'for every input the law returns true; each argument reads behind the call as it read before'; 0 by the template 'total and deterministic' (their statements: YteblocppjloggaaTotals.lean).
  GIVEN WITH THE SEED: the statements are not yours to turn. If you find one false, say at which input.
  Laid BY PROGRAM, IN A SANDBOX (cutbox-rows.mjs): the forced cells as the released guide's own fill.sh prints them over the translation 85c62a757a2ddce0… (all of the seat's roots in one cut). By AI agents, Wed Nov 11 2026. No macro, syntax, notation, axiom, sorry.
-/
import Derived.Test.YteblocppjloggaaChecked
import GoSem.Claim
import GoSem.ClaimJoined
import GoSem.ClaimMapViews
import Derived.JoinedTies
import Derived.KernelRfl
namespace Go.Proofs.Yteblocppjloggaa
/- THE CELL 'sum', in the pinned program and in every row, IS THE sha256 OF THE DUMP (.gsa) THAT YteblocppjloggaaProg.lean LOADS. Nothing in Lean hashes anything: it is a label: what it is worth is what the hold of that sum in a sandbox is worth. -/
noncomputable def Try.pinned : Pinned := { name := "yteblocppjloggaa", sum := "85c62a757a2ddce01225ffb3b7666fb727a53cc2737756bca21414acb02c7644", checked := Try.checked }
namespace Rows
def none {H : Type} : Left H := { results := [], args := [] }

/-- 'parcloselaw09.AclChecks': WHATEVER THE INPUT: true; the input reads as it did. -/
def aclChecksSpec : ChangeSpec := { name := "aclChecks", fn := fun _ => fun
  | [d1, d2] => { results := [.lit (.bool true)], args := [d1, d2] }
  | _ => none }
def aclChecksRow : OpenClaim := { program := "yteblocppjloggaa", sum := "85c62a757a2ddce01225ffb3b7666fb727a53cc2737756bca21414acb02c7644", func := "parclose/parcloselaw09.AclChecks", spec := "aclChecks", unfollowed := true, recurses := true, apart := false }
def AclChecksSaid : Prop := aclChecksRow.holds Try.pinned (OpenSpec.ofChange aclChecksSpec)

/-- ITS FALSE NEIGHBOUR: 'it returns false'. Refute it at one input. -/
def aclChecksWrong : ChangeSpec := { name := "aclChecks", fn := fun _ => fun
  | [d1, d2] => { results := [.lit (.bool false)], args := [d1, d2] }
  | _ => none }
def AclChecksWrongFalsely : Prop := aclChecksRow.holds Try.pinned (OpenSpec.ofChange aclChecksWrong)

/-- 'parcloselaw09.AclBits': WHATEVER THE INPUT: true; the input reads as it did. -/
def aclBitsSpec : ChangeSpec := { name := "aclBits", fn := fun _ => fun
  | [d1, d2] => { results := [.lit (.bool true)], args := [d1, d2] }
  | _ => none }
def aclBitsRow : OpenClaim := { program := "yteblocppjloggaa", sum := "85c62a757a2ddce01225ffb3b7666fb727a53cc2737756bca21414acb02c7644", func := "parclose/parcloselaw09.AclBits", spec := "aclBits", unfollowed := true, recurses := true, apart := false }
def AclBitsSaid : Prop := aclBitsRow.holds Try.pinned (OpenSpec.ofChange aclBitsSpec)

/-- ITS FALSE NEIGHBOUR: 'it returns false'. Refute it at one input. -/
def aclBitsWrong : ChangeSpec := { name := "aclBits", fn := fun _ => fun
  | [d1, d2] => { results := [.lit (.bool false)], args := [d1, d2] }
  | _ => none }
def AclBitsWrongFalsely : Prop := aclBitsRow.holds Try.pinned (OpenSpec.ofChange aclBitsWrong)

/-- 'parcloselaw09.AclTurns': WHATEVER THE INPUT: true; the input reads as it did. -/
def aclTurnsSpec : ChangeSpec := { name := "aclTurns", fn := fun _ => fun
  | [d1, d2, d3] => { results := [.lit (.bool true)], args := [d1, d2, d3] }
  | _ => none }
def aclTurnsRow : OpenClaim := { program := "yteblocppjloggaa", sum := "85c62a757a2ddce01225ffb3b7666fb727a53cc2737756bca21414acb02c7644", func := "parclose/parcloselaw09.AclTurns", spec := "aclTurns", unfollowed := true, recurses := true, apart := false }
def AclTurnsSaid : Prop := aclTurnsRow.holds Try.pinned (OpenSpec.ofChange aclTurnsSpec)

/-- ITS FALSE NEIGHBOUR: 'it returns false'. Refute it at one input. -/
def aclTurnsWrong : ChangeSpec := { name := "aclTurns", fn := fun _ => fun
  | [d1, d2, d3] => { results := [.lit (.bool false)], args := [d1, d2, d3] }
  | _ => none }
def AclTurnsWrongFalsely : Prop := aclTurnsRow.holds Try.pinned (OpenSpec.ofChange aclTurnsWrong)

/-- 'parcloselaw09.AclOwn': WHATEVER THE INPUT: true; the input reads as it did. -/
def aclOwnSpec : ChangeSpec := { name := "aclOwn", fn := fun _ => fun
  | [d1, d2] => { results := [.lit (.bool true)], args := [d1, d2] }
  | _ => none }
def aclOwnRow : OpenClaim := { program := "yteblocppjloggaa", sum := "85c62a757a2ddce01225ffb3b7666fb727a53cc2737756bca21414acb02c7644", func := "parclose/parcloselaw09.AclOwn", spec := "aclOwn", unfollowed := true, recurses := true, apart := false }
def AclOwnSaid : Prop := aclOwnRow.holds Try.pinned (OpenSpec.ofChange aclOwnSpec)

/-- ITS FALSE NEIGHBOUR: 'it returns false'. Refute it at one input. -/
def aclOwnWrong : ChangeSpec := { name := "aclOwn", fn := fun _ => fun
  | [d1, d2] => { results := [.lit (.bool false)], args := [d1, d2] }
  | _ => none }
def AclOwnWrongFalsely : Prop := aclOwnRow.holds Try.pinned (OpenSpec.ofChange aclOwnWrong)

/-- 'parcloselaw09.AclSmall': WHATEVER THE INPUT: true; the input reads as it did. -/
def aclSmallSpec : ChangeSpec := { name := "aclSmall", fn := fun _ => fun
  | [d1, d2] => { results := [.lit (.bool true)], args := [d1, d2] }
  | _ => none }
def aclSmallRow : OpenClaim := { program := "yteblocppjloggaa", sum := "85c62a757a2ddce01225ffb3b7666fb727a53cc2737756bca21414acb02c7644", func := "parclose/parcloselaw09.AclSmall", spec := "aclSmall", unfollowed := true, recurses := true, apart := false }
def AclSmallSaid : Prop := aclSmallRow.holds Try.pinned (OpenSpec.ofChange aclSmallSpec)

/-- ITS FALSE NEIGHBOUR: 'it returns false'. Refute it at one input. -/
def aclSmallWrong : ChangeSpec := { name := "aclSmall", fn := fun _ => fun
  | [d1, d2] => { results := [.lit (.bool false)], args := [d1, d2] }
  | _ => none }
def AclSmallWrongFalsely : Prop := aclSmallRow.holds Try.pinned (OpenSpec.ofChange aclSmallWrong)

/- THE SECOND FORM. 'bulk': how many values and letters a reading holds, each counted each time it is reached (what is shared counts as often as it is met; a slice's spare places count too). A statement '..UptoSaid' is the law's where the arguments, and the package variables that the reading takes, are together of bulk at most 1048576: NARROWER than '..Said'. Prove '..Said' where nothing that the law and all that it calls make is longer than what came in: it says more and counts as full. Else prove '..UptoSaid'. A law counts once. -/
mutual
def uptoBulk {H : Type} : DataW H → Nat
  | .lit (.string bytes) => bytes.length + 1
  | .lit _ => 1
  | .nil => 1
  | .ptr d => uptoBulk d + 1
  | .slice elems spare => uptoBulkAll elems + uptoBulkAll spare + 1
  | .agg parts => uptoBulkAll parts + 1
  | .iface _ d => uptoBulk d + 1
  | .map entries => uptoBulkEntries entries + 1
  | .held _ => 1
def uptoBulkAll {H : Type} : List (DataW H) → Nat
  | [] => 0
  | d :: r => uptoBulk d + uptoBulkAll r
def uptoBulkEntries {H : Type} : List (Lit × DataW H) → Nat
  | [] => 0
  | x :: r => uptoBulkEntry x + uptoBulkEntries r
def uptoBulkEntry {H : Type} : Lit × DataW H → Nat
  | (.string bytes, d) => bytes.length + uptoBulk d + 1
  | (_, d) => uptoBulk d + 1
 end
def uptoSmall : (H : Type) → List (DataW H) → Bool := fun _ ds => decide (uptoBulkAll ds ≤ 1048576)
def OpenSpec.upto (s : _root_.Go.ChangeSpec) : _root_.Go.OpenSpec := { _root_.Go.OpenSpec.ofChange s with cond := some uptoSmall }

/-- 'parcloselaw09.AclChecks', WHERE WHAT IT READS IS OF BULK AT MOST 1048576: true; the input reads as it did. -/
def aclChecksUptoRow : OpenClaim := { program := "yteblocppjloggaa", sum := "85c62a757a2ddce01225ffb3b7666fb727a53cc2737756bca21414acb02c7644", func := "parclose/parcloselaw09.AclChecks", spec := "aclChecks", unfollowed := true, recurses := true, apart := false, narrowed := true }
def AclChecksUptoSaid : Prop := aclChecksUptoRow.holds Try.pinned (OpenSpec.upto aclChecksSpec)

/-- 'parcloselaw09.AclBits', WHERE WHAT IT READS IS OF BULK AT MOST 1048576: true; the input reads as it did. -/
def aclBitsUptoRow : OpenClaim := { program := "yteblocppjloggaa", sum := "85c62a757a2ddce01225ffb3b7666fb727a53cc2737756bca21414acb02c7644", func := "parclose/parcloselaw09.AclBits", spec := "aclBits", unfollowed := true, recurses := true, apart := false, narrowed := true }
def AclBitsUptoSaid : Prop := aclBitsUptoRow.holds Try.pinned (OpenSpec.upto aclBitsSpec)

/-- 'parcloselaw09.AclTurns', WHERE WHAT IT READS IS OF BULK AT MOST 1048576: true; the input reads as it did. -/
def aclTurnsUptoRow : OpenClaim := { program := "yteblocppjloggaa", sum := "85c62a757a2ddce01225ffb3b7666fb727a53cc2737756bca21414acb02c7644", func := "parclose/parcloselaw09.AclTurns", spec := "aclTurns", unfollowed := true, recurses := true, apart := false, narrowed := true }
def AclTurnsUptoSaid : Prop := aclTurnsUptoRow.holds Try.pinned (OpenSpec.upto aclTurnsSpec)

/-- 'parcloselaw09.AclOwn', WHERE WHAT IT READS IS OF BULK AT MOST 1048576: true; the input reads as it did. -/
def aclOwnUptoRow : OpenClaim := { program := "yteblocppjloggaa", sum := "85c62a757a2ddce01225ffb3b7666fb727a53cc2737756bca21414acb02c7644", func := "parclose/parcloselaw09.AclOwn", spec := "aclOwn", unfollowed := true, recurses := true, apart := false, narrowed := true }
def AclOwnUptoSaid : Prop := aclOwnUptoRow.holds Try.pinned (OpenSpec.upto aclOwnSpec)

/-- 'parcloselaw09.AclSmall', WHERE WHAT IT READS IS OF BULK AT MOST 1048576: true; the input reads as it did. -/
def aclSmallUptoRow : OpenClaim := { program := "yteblocppjloggaa", sum := "85c62a757a2ddce01225ffb3b7666fb727a53cc2737756bca21414acb02c7644", func := "parclose/parcloselaw09.AclSmall", spec := "aclSmall", unfollowed := true, recurses := true, apart := false, narrowed := true }
def AclSmallUptoSaid : Prop := aclSmallUptoRow.holds Try.pinned (OpenSpec.upto aclSmallSpec)

end Rows
end Go.Proofs.Yteblocppjloggaa
