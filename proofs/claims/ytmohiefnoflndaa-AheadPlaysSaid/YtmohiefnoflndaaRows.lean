/-
  No cell of these rows narrows 'for every input' (looked for: loops, veiled, ifaces, maps, wideKeys, modest, calm, conditions, laid).
  DERIVED. THE GIVEN ROWS OF THIS SEAT. 4 by the template 'for every input the law returns true; each argument reads behind the call as it read before'; 0 by the template 'total and deterministic' (their statements: YtmohiefnoflndaaTotals.lean).
  GIVEN WITH THE SEED: the statements are not yours to turn. If you find one false, say at which input.
  Laid BY PROGRAM, IN A SANDBOX (cutbox-rows.mjs): the forced cells as the released guide's own fill.sh prints them over the translation b207517d1a7cd7ac… (all of the seat's roots in one cut). By AI agents, Wed Nov 11 2026. No macro, syntax, notation, axiom, sorry.
-/
import Derived.Test.YtmohiefnoflndaaChecked
import GoSem.Claim
import GoSem.ClaimJoined
import GoSem.ClaimMapViews
import Derived.JoinedTies
import Derived.KernelRfl
namespace Go.Proofs.Ytmohiefnoflndaa
/- THE CELL 'sum', in the pinned program and in every row, IS THE sha256 OF THE DUMP (.gsa) THAT YtmohiefnoflndaaProg.lean LOADS. Nothing in Lean hashes anything: it is a label: what it is worth is what the hold of that sum in a sandbox is worth. -/
noncomputable def Try.pinned : Pinned := { name := "ytmohiefnoflndaa", sum := "b207517d1a7cd7ac55e8510ea2a0b781409f78ca954805d207ae092b2642f7ef", checked := Try.checked }
namespace Rows
def none {H : Type} : Left H := { results := [], args := [] }

/-- 'parcloselaw17.AheadPlays': WHATEVER THE INPUT: true; the input reads as it did. -/
def aheadPlaysSpec : ChangeSpec := { name := "aheadPlays", fn := fun _ => fun
  | [d] => { results := [.lit (.bool true)], args := [d] }
  | _ => none }
def aheadPlaysRow : OpenClaim := { program := "ytmohiefnoflndaa", sum := "b207517d1a7cd7ac55e8510ea2a0b781409f78ca954805d207ae092b2642f7ef", func := "parclose/parcloselaw17.AheadPlays", spec := "aheadPlays", unfollowed := true, recurses := true, apart := false }
def AheadPlaysSaid : Prop := aheadPlaysRow.holds Try.pinned (OpenSpec.ofChange aheadPlaysSpec)

/-- ITS FALSE NEIGHBOUR: 'it returns false'. Refute it at one input. -/
def aheadPlaysWrong : ChangeSpec := { name := "aheadPlays", fn := fun _ => fun
  | [d] => { results := [.lit (.bool false)], args := [d] }
  | _ => none }
def AheadPlaysWrongFalsely : Prop := aheadPlaysRow.holds Try.pinned (OpenSpec.ofChange aheadPlaysWrong)

/-- 'parcloselaw17.AheadLast': WHATEVER THE INPUT: true; the input reads as it did. -/
def aheadLastSpec : ChangeSpec := { name := "aheadLast", fn := fun _ => fun
  | [d1, d2] => { results := [.lit (.bool true)], args := [d1, d2] }
  | _ => none }
def aheadLastRow : OpenClaim := { program := "ytmohiefnoflndaa", sum := "b207517d1a7cd7ac55e8510ea2a0b781409f78ca954805d207ae092b2642f7ef", func := "parclose/parcloselaw17.AheadLast", spec := "aheadLast", unfollowed := true, recurses := true, apart := false }
def AheadLastSaid : Prop := aheadLastRow.holds Try.pinned (OpenSpec.ofChange aheadLastSpec)

/-- ITS FALSE NEIGHBOUR: 'it returns false'. Refute it at one input. -/
def aheadLastWrong : ChangeSpec := { name := "aheadLast", fn := fun _ => fun
  | [d1, d2] => { results := [.lit (.bool false)], args := [d1, d2] }
  | _ => none }
def AheadLastWrongFalsely : Prop := aheadLastRow.holds Try.pinned (OpenSpec.ofChange aheadLastWrong)

/-- 'parcloselaw17.AheadStored': WHATEVER THE INPUT: true; the input reads as it did. -/
def aheadStoredSpec : ChangeSpec := { name := "aheadStored", fn := fun _ => fun
  | [d1, d2] => { results := [.lit (.bool true)], args := [d1, d2] }
  | _ => none }
def aheadStoredRow : OpenClaim := { program := "ytmohiefnoflndaa", sum := "b207517d1a7cd7ac55e8510ea2a0b781409f78ca954805d207ae092b2642f7ef", func := "parclose/parcloselaw17.AheadStored", spec := "aheadStored", unfollowed := true, recurses := true, apart := false }
def AheadStoredSaid : Prop := aheadStoredRow.holds Try.pinned (OpenSpec.ofChange aheadStoredSpec)

/-- ITS FALSE NEIGHBOUR: 'it returns false'. Refute it at one input. -/
def aheadStoredWrong : ChangeSpec := { name := "aheadStored", fn := fun _ => fun
  | [d1, d2] => { results := [.lit (.bool false)], args := [d1, d2] }
  | _ => none }
def AheadStoredWrongFalsely : Prop := aheadStoredRow.holds Try.pinned (OpenSpec.ofChange aheadStoredWrong)

/-- 'parcloselaw17.AheadNil': WHATEVER THE INPUT: true; the input reads as it did. -/
def aheadNilSpec : ChangeSpec := { name := "aheadNil", fn := fun _ => fun
  | [d1, d2, d3] => { results := [.lit (.bool true)], args := [d1, d2, d3] }
  | _ => none }
def aheadNilRow : OpenClaim := { program := "ytmohiefnoflndaa", sum := "b207517d1a7cd7ac55e8510ea2a0b781409f78ca954805d207ae092b2642f7ef", func := "parclose/parcloselaw17.AheadNil", spec := "aheadNil", unfollowed := true, recurses := true, apart := false }
def AheadNilSaid : Prop := aheadNilRow.holds Try.pinned (OpenSpec.ofChange aheadNilSpec)

/-- ITS FALSE NEIGHBOUR: 'it returns false'. Refute it at one input. -/
def aheadNilWrong : ChangeSpec := { name := "aheadNil", fn := fun _ => fun
  | [d1, d2, d3] => { results := [.lit (.bool false)], args := [d1, d2, d3] }
  | _ => none }
def AheadNilWrongFalsely : Prop := aheadNilRow.holds Try.pinned (OpenSpec.ofChange aheadNilWrong)

/- THE SECOND FORM. 'bulk': how many values and letters a reading holds, each counted each time it is reached (what is shared counts as often as it is met; a slice's spare places count too). A statement '..UptoSaid' is the law's where the arguments, and the package variables that the reading takes, are together of bulk at most 1048576: NARROWER than '..Said'. Prove '..Said' where nothing that the law and all that it calls make is longer than what came in: it says more and counts as full. Else prove '..UptoSaid'. A law counts once. -/
mutual
def uptoBulk {H : Type} : DataW H → Nat
  | .lit (.string bytes) => bytes.length + 1
  | .lit _ => 1
  | .nil => 1
  | .ptr d => uptoBulk d + 1
  | .slice elems spare => uptoBulkAll elems + uptoBulkAll spare + 1
  | .agg parts => uptoBulkAll parts + 1
  | .iface _ d => uptoBulk d + 1
  | .map entries => uptoBulkEntries entries + 1
  | .held _ => 1
def uptoBulkAll {H : Type} : List (DataW H) → Nat
  | [] => 0
  | d :: r => uptoBulk d + uptoBulkAll r
def uptoBulkEntries {H : Type} : List (Lit × DataW H) → Nat
  | [] => 0
  | x :: r => uptoBulkEntry x + uptoBulkEntries r
def uptoBulkEntry {H : Type} : Lit × DataW H → Nat
  | (.string bytes, d) => bytes.length + uptoBulk d + 1
  | (_, d) => uptoBulk d + 1
 end
def uptoSmall : (H : Type) → List (DataW H) → Bool := fun _ ds => decide (uptoBulkAll ds ≤ 1048576)
def OpenSpec.upto (s : _root_.Go.ChangeSpec) : _root_.Go.OpenSpec := { _root_.Go.OpenSpec.ofChange s with cond := some uptoSmall }

/-- 'parcloselaw17.AheadPlays', WHERE WHAT IT READS IS OF BULK AT MOST 1048576: true; the input reads as it did. -/
def aheadPlaysUptoRow : OpenClaim := { program := "ytmohiefnoflndaa", sum := "b207517d1a7cd7ac55e8510ea2a0b781409f78ca954805d207ae092b2642f7ef", func := "parclose/parcloselaw17.AheadPlays", spec := "aheadPlays", unfollowed := true, recurses := true, apart := false, narrowed := true }
def AheadPlaysUptoSaid : Prop := aheadPlaysUptoRow.holds Try.pinned (OpenSpec.upto aheadPlaysSpec)

/-- 'parcloselaw17.AheadLast', WHERE WHAT IT READS IS OF BULK AT MOST 1048576: true; the input reads as it did. -/
def aheadLastUptoRow : OpenClaim := { program := "ytmohiefnoflndaa", sum := "b207517d1a7cd7ac55e8510ea2a0b781409f78ca954805d207ae092b2642f7ef", func := "parclose/parcloselaw17.AheadLast", spec := "aheadLast", unfollowed := true, recurses := true, apart := false, narrowed := true }
def AheadLastUptoSaid : Prop := aheadLastUptoRow.holds Try.pinned (OpenSpec.upto aheadLastSpec)

/-- 'parcloselaw17.AheadStored', WHERE WHAT IT READS IS OF BULK AT MOST 1048576: true; the input reads as it did. -/
def aheadStoredUptoRow : OpenClaim := { program := "ytmohiefnoflndaa", sum := "b207517d1a7cd7ac55e8510ea2a0b781409f78ca954805d207ae092b2642f7ef", func := "parclose/parcloselaw17.AheadStored", spec := "aheadStored", unfollowed := true, recurses := true, apart := false, narrowed := true }
def AheadStoredUptoSaid : Prop := aheadStoredUptoRow.holds Try.pinned (OpenSpec.upto aheadStoredSpec)

/-- 'parcloselaw17.AheadNil', WHERE WHAT IT READS IS OF BULK AT MOST 1048576: true; the input reads as it did. -/
def aheadNilUptoRow : OpenClaim := { program := "ytmohiefnoflndaa", sum := "b207517d1a7cd7ac55e8510ea2a0b781409f78ca954805d207ae092b2642f7ef", func := "parclose/parcloselaw17.AheadNil", spec := "aheadNil", unfollowed := true, recurses := true, apart := false, narrowed := true }
def AheadNilUptoSaid : Prop := aheadNilUptoRow.holds Try.pinned (OpenSpec.upto aheadNilSpec)

end Rows
end Go.Proofs.Ytmohiefnoflndaa
