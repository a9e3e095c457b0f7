/-
  No cell of these rows narrows 'for every input' (looked for: loops, veiled, ifaces, maps, wideKeys, modest, calm, conditions, laid).
  DERIVED. THE GIVEN ROWS OF THIS SEAT. 5 by the template 'for every input the law returns true; each argument reads behind the call as it read before'; 0 by the template 'total and deterministic' (their statements: YtligadbnoiibnaaTotals.lean).
  GIVEN WITH THE SEED: the statements are not yours to turn. If you find one false, say at which input.
  Laid BY PROGRAM, IN A SANDBOX (cutbox-rows.mjs): the forced cells as the released guide's own fill.sh prints them over the translation 2e862ff5abee5043… (all of the seat's roots in one cut). By AI agents, Wed Nov 11 2026. No macro, syntax, notation, axiom, sorry.
-/
import Derived.Test.YtligadbnoiibnaaChecked
import GoSem.Claim
import GoSem.ClaimJoined
import GoSem.ClaimMapViews
import Derived.JoinedTies
import Derived.KernelRfl
namespace Go.Proofs.Ytligadbnoiibnaa
/- THE CELL 'sum', in the pinned program and in every row, IS THE sha256 OF THE DUMP (.gsa) THAT YtligadbnoiibnaaProg.lean LOADS. Nothing in Lean hashes anything: it is a label: what it is worth is what the hold of that sum in a sandbox is worth. -/
noncomputable def Try.pinned : Pinned := { name := "ytligadbnoiibnaa", sum := "2e862ff5abee50436028202e8a0786a5cab0d129f96a39073d0f335f74fe6609", checked := Try.checked }
namespace Rows
def none {H : Type} : Left H := { results := [], args := [] }

/-- 'parcloselaw13.OwnerLists': WHATEVER THE INPUT: true; the input reads as it did. -/
def ownerListsSpec : ChangeSpec := { name := "ownerLists", fn := fun _ => fun
  | [d1, d2, d3, d4, d5, d6] => { results := [.lit (.bool true)], args := [d1, d2, d3, d4, d5, d6] }
  | _ => none }
def ownerListsRow : OpenClaim := { program := "ytligadbnoiibnaa", sum := "2e862ff5abee50436028202e8a0786a5cab0d129f96a39073d0f335f74fe6609", func := "parclose/parcloselaw13.OwnerLists", spec := "ownerLists", inPlace := ["internal/bytealg.IndexByteString", "internal/bytealg.IndexString"], unfollowed := true, recurses := true, named := ["internal/bytealg.MaxLen"], apart := false }
def OwnerListsSaid : Prop := ownerListsRow.holds Try.pinned (OpenSpec.ofChange ownerListsSpec)

/-- ITS FALSE NEIGHBOUR: 'it returns false'. Refute it at one input. -/
def ownerListsWrong : ChangeSpec := { name := "ownerLists", fn := fun _ => fun
  | [d1, d2, d3, d4, d5, d6] => { results := [.lit (.bool false)], args := [d1, d2, d3, d4, d5, d6] }
  | _ => none }
def OwnerListsWrongFalsely : Prop := ownerListsRow.holds Try.pinned (OpenSpec.ofChange ownerListsWrong)

/-- 'parcloselaw13.OwnerAlone': WHATEVER THE INPUT: true; the input reads as it did. -/
def ownerAloneSpec : ChangeSpec := { name := "ownerAlone", fn := fun _ => fun
  | [d1, d2, d3, d4, d5, d6, d7, d8] => { results := [.lit (.bool true)], args := [d1, d2, d3, d4, d5, d6, d7, d8] }
  | _ => none }
def ownerAloneRow : OpenClaim := { program := "ytligadbnoiibnaa", sum := "2e862ff5abee50436028202e8a0786a5cab0d129f96a39073d0f335f74fe6609", func := "parclose/parcloselaw13.OwnerAlone", spec := "ownerAlone", inPlace := ["internal/bytealg.IndexByteString", "internal/bytealg.IndexString"], unfollowed := true, recurses := true, named := ["internal/bytealg.MaxLen"], apart := false }
def OwnerAloneSaid : Prop := ownerAloneRow.holds Try.pinned (OpenSpec.ofChange ownerAloneSpec)

/-- ITS FALSE NEIGHBOUR: 'it returns false'. Refute it at one input. -/
def ownerAloneWrong : ChangeSpec := { name := "ownerAlone", fn := fun _ => fun
  | [d1, d2, d3, d4, d5, d6, d7, d8] => { results := [.lit (.bool false)], args := [d1, d2, d3, d4, d5, d6, d7, d8] }
  | _ => none }
def OwnerAloneWrongFalsely : Prop := ownerAloneRow.holds Try.pinned (OpenSpec.ofChange ownerAloneWrong)

/-- 'parcloselaw13.OwnerSticky': WHATEVER THE INPUT: true; the input reads as it did. -/
def ownerStickySpec : ChangeSpec := { name := "ownerSticky", fn := fun _ => fun
  | [d1, d2, d3] => { results := [.lit (.bool true)], args := [d1, d2, d3] }
  | _ => none }
def ownerStickyRow : OpenClaim := { program := "ytligadbnoiibnaa", sum := "2e862ff5abee50436028202e8a0786a5cab0d129f96a39073d0f335f74fe6609", func := "parclose/parcloselaw13.OwnerSticky", spec := "ownerSticky", inPlace := ["internal/bytealg.IndexByteString", "internal/bytealg.IndexString"], unfollowed := true, recurses := true, named := ["internal/bytealg.MaxLen"], apart := false }
def OwnerStickySaid : Prop := ownerStickyRow.holds Try.pinned (OpenSpec.ofChange ownerStickySpec)

/-- ITS FALSE NEIGHBOUR: 'it returns false'. Refute it at one input. -/
def ownerStickyWrong : ChangeSpec := { name := "ownerSticky", fn := fun _ => fun
  | [d1, d2, d3] => { results := [.lit (.bool false)], args := [d1, d2, d3] }
  | _ => none }
def OwnerStickyWrongFalsely : Prop := ownerStickyRow.holds Try.pinned (OpenSpec.ofChange ownerStickyWrong)

/-- 'parcloselaw13.OwnerTurns': WHATEVER THE INPUT: true; the input reads as it did. -/
def ownerTurnsSpec : ChangeSpec := { name := "ownerTurns", fn := fun _ => fun
  | [d1, d2, d3, d4, d5, d6] => { results := [.lit (.bool true)], args := [d1, d2, d3, d4, d5, d6] }
  | _ => none }
def ownerTurnsRow : OpenClaim := { program := "ytligadbnoiibnaa", sum := "2e862ff5abee50436028202e8a0786a5cab0d129f96a39073d0f335f74fe6609", func := "parclose/parcloselaw13.OwnerTurns", spec := "ownerTurns", inPlace := ["internal/bytealg.IndexByteString", "internal/bytealg.IndexString"], unfollowed := true, recurses := true, named := ["internal/bytealg.MaxLen"], apart := false }
def OwnerTurnsSaid : Prop := ownerTurnsRow.holds Try.pinned (OpenSpec.ofChange ownerTurnsSpec)

/-- ITS FALSE NEIGHBOUR: 'it returns false'. Refute it at one input. -/
def ownerTurnsWrong : ChangeSpec := { name := "ownerTurns", fn := fun _ => fun
  | [d1, d2, d3, d4, d5, d6] => { results := [.lit (.bool false)], args := [d1, d2, d3, d4, d5, d6] }
  | _ => none }
def OwnerTurnsWrongFalsely : Prop := ownerTurnsRow.holds Try.pinned (OpenSpec.ofChange ownerTurnsWrong)

/-- 'parcloselaw13.OwnerSet': WHATEVER THE INPUT: true; the input reads as it did. -/
def ownerSetSpec : ChangeSpec := { name := "ownerSet", fn := fun _ => fun
  | [d1, d2, d3, d4] => { results := [.lit (.bool true)], args := [d1, d2, d3, d4] }
  | _ => none }
def ownerSetRow : OpenClaim := { program := "ytligadbnoiibnaa", sum := "2e862ff5abee50436028202e8a0786a5cab0d129f96a39073d0f335f74fe6609", func := "parclose/parcloselaw13.OwnerSet", spec := "ownerSet", inPlace := ["internal/bytealg.IndexByteString", "internal/bytealg.IndexString"], unfollowed := true, recurses := true, named := ["internal/bytealg.MaxLen"], apart := false }
def OwnerSetSaid : Prop := ownerSetRow.holds Try.pinned (OpenSpec.ofChange ownerSetSpec)

/-- ITS FALSE NEIGHBOUR: 'it returns false'. Refute it at one input. -/
def ownerSetWrong : ChangeSpec := { name := "ownerSet", fn := fun _ => fun
  | [d1, d2, d3, d4] => { results := [.lit (.bool false)], args := [d1, d2, d3, d4] }
  | _ => none }
def OwnerSetWrongFalsely : Prop := ownerSetRow.holds Try.pinned (OpenSpec.ofChange ownerSetWrong)

/- THE SECOND FORM. 'bulk': how many values and letters a reading holds, each counted each time it is reached (what is shared counts as often as it is met; a slice's spare places count too). A statement '..UptoSaid' is the law's where the arguments, and the package variables that the reading takes, are together of bulk at most 1048576: NARROWER than '..Said'. Prove '..Said' where nothing that the law and all that it calls make is longer than what came in: it says more and counts as full. Else prove '..UptoSaid'. A law counts once. -/
mutual
def uptoBulk {H : Type} : DataW H → Nat
  | .lit (.string bytes) => bytes.length + 1
  | .lit _ => 1
  | .nil => 1
  | .ptr d => uptoBulk d + 1
  | .slice elems spare => uptoBulkAll elems + uptoBulkAll spare + 1
  | .agg parts => uptoBulkAll parts + 1
  | .iface _ d => uptoBulk d + 1
  | .map entries => uptoBulkEntries entries + 1
  | .held _ => 1
def uptoBulkAll {H : Type} : List (DataW H) → Nat
  | [] => 0
  | d :: r => uptoBulk d + uptoBulkAll r
def uptoBulkEntries {H : Type} : List (Lit × DataW H) → Nat
  | [] => 0
  | x :: r => uptoBulkEntry x + uptoBulkEntries r
def uptoBulkEntry {H : Type} : Lit × DataW H → Nat
  | (.string bytes, d) => bytes.length + uptoBulk d + 1
  | (_, d) => uptoBulk d + 1
 end
def uptoSmall : (H : Type) → List (DataW H) → Bool := fun _ ds => decide (uptoBulkAll ds ≤ 1048576)
def OpenSpec.upto (s : _root_.Go.ChangeSpec) : _root_.Go.OpenSpec := { _root_.Go.OpenSpec.ofChange s with cond := some uptoSmall }

/-- 'parcloselaw13.OwnerLists', WHERE WHAT IT READS IS OF BULK AT MOST 1048576: true; the input reads as it did. -/
def ownerListsUptoRow : OpenClaim := { program := "ytligadbnoiibnaa", sum := "2e862ff5abee50436028202e8a0786a5cab0d129f96a39073d0f335f74fe6609", func := "parclose/parcloselaw13.OwnerLists", spec := "ownerLists", inPlace := ["internal/bytealg.IndexByteString", "internal/bytealg.IndexString"], unfollowed := true, recurses := true, named := ["internal/bytealg.MaxLen"], apart := false, narrowed := true }
def OwnerListsUptoSaid : Prop := ownerListsUptoRow.holds Try.pinned (OpenSpec.upto ownerListsSpec)

/-- 'parcloselaw13.OwnerAlone', WHERE WHAT IT READS IS OF BULK AT MOST 1048576: true; the input reads as it did. -/
def ownerAloneUptoRow : OpenClaim := { program := "ytligadbnoiibnaa", sum := "2e862ff5abee50436028202e8a0786a5cab0d129f96a39073d0f335f74fe6609", func := "parclose/parcloselaw13.OwnerAlone", spec := "ownerAlone", inPlace := ["internal/bytealg.IndexByteString", "internal/bytealg.IndexString"], unfollowed := true, recurses := true, named := ["internal/bytealg.MaxLen"], apart := false, narrowed := true }
def OwnerAloneUptoSaid : Prop := ownerAloneUptoRow.holds Try.pinned (OpenSpec.upto ownerAloneSpec)

/-- 'parcloselaw13.OwnerSticky', WHERE WHAT IT READS IS OF BULK AT MOST 1048576: true; the input reads as it did. -/
def ownerStickyUptoRow : OpenClaim := { program := "ytligadbnoiibnaa", sum := "2e862ff5abee50436028202e8a0786a5cab0d129f96a39073d0f335f74fe6609", func := "parclose/parcloselaw13.OwnerSticky", spec := "ownerSticky", inPlace := ["internal/bytealg.IndexByteString", "internal/bytealg.IndexString"], unfollowed := true, recurses := true, named := ["internal/bytealg.MaxLen"], apart := false, narrowed := true }
def OwnerStickyUptoSaid : Prop := ownerStickyUptoRow.holds Try.pinned (OpenSpec.upto ownerStickySpec)

/-- 'parcloselaw13.OwnerTurns', WHERE WHAT IT READS IS OF BULK AT MOST 1048576: true; the input reads as it did. -/
def ownerTurnsUptoRow : OpenClaim := { program := "ytligadbnoiibnaa", sum := "2e862ff5abee50436028202e8a0786a5cab0d129f96a39073d0f335f74fe6609", func := "parclose/parcloselaw13.OwnerTurns", spec := "ownerTurns", inPlace := ["internal/bytealg.IndexByteString", "internal/bytealg.IndexString"], unfollowed := true, recurses := true, named := ["internal/bytealg.MaxLen"], apart := false, narrowed := true }
def OwnerTurnsUptoSaid : Prop := ownerTurnsUptoRow.holds Try.pinned (OpenSpec.upto ownerTurnsSpec)

/-- 'parcloselaw13.OwnerSet', WHERE WHAT IT READS IS OF BULK AT MOST 1048576: true; the input reads as it did. -/
def ownerSetUptoRow : OpenClaim := { program := "ytligadbnoiibnaa", sum := "2e862ff5abee50436028202e8a0786a5cab0d129f96a39073d0f335f74fe6609", func := "parclose/parcloselaw13.OwnerSet", spec := "ownerSet", inPlace := ["internal/bytealg.IndexByteString", "internal/bytealg.IndexString"], unfollowed := true, recurses := true, named := ["internal/bytealg.MaxLen"], apart := false, narrowed := true }
def OwnerSetUptoSaid : Prop := ownerSetUptoRow.holds Try.pinned (OpenSpec.upto ownerSetSpec)

end Rows
end Go.Proofs.Ytligadbnoiibnaa
