/-
  No cell of these rows narrows 'for every input' (looked for: loops, veiled, ifaces, maps, wideKeys, modest, calm, conditions, laid).
  DERIVED. THE GIVEN ROWS OF THIS SEAT. 4 by the template 'for every input the law returns true; each argument reads behind the call as it read before'; 0 by the template 'total and deterministic' (their statements: YtgpanbmjmpondaaTotals.lean).
  GIVEN WITH THE SEED: the statements are not yours to turn. If you find one false, say at which input.
  Laid BY PROGRAM, IN A SANDBOX (cutbox-rows.mjs): the forced cells as the released guide's own fill.sh prints them over the translation df3d4362a1c90728… (all of the seat's roots in one cut). By AI agents, Wed Nov 11 2026. No macro, syntax, notation, axiom, sorry.
-/
import Derived.Test.YtgpanbmjmpondaaChecked
import GoSem.Claim
import GoSem.ClaimJoined
import GoSem.ClaimMapViews
import Derived.JoinedTies
import Derived.KernelRfl
namespace Go.Proofs.Ytgpanbmjmpondaa
/- THE CELL 'sum', in the pinned program and in every row, IS THE sha256 OF THE DUMP (.gsa) THAT YtgpanbmjmpondaaProg.lean LOADS. Nothing in Lean hashes anything: it is a label: what it is worth is what the hold of that sum in a sandbox is worth. -/
noncomputable def Try.pinned : Pinned := { name := "ytgpanbmjmpondaa", sum := "df3d4362a1c90728fcc868e925373b3ca6267cc67f795cf4c24cf3956923fcef", checked := Try.checked }
namespace Rows
def none {H : Type} : Left H := { results := [], args := [] }

/-- 'parcloselaw21.DirAsks': WHATEVER THE INPUT: true; the input reads as it did. -/
def dirAsksSpec : ChangeSpec := { name := "dirAsks", fn := fun _ => fun
  | [d1, d2, d3, d4] => { results := [.lit (.bool true)], args := [d1, d2, d3, d4] }
  | _ => none }
def dirAsksRow : OpenClaim := { program := "ytgpanbmjmpondaa", sum := "df3d4362a1c90728fcc868e925373b3ca6267cc67f795cf4c24cf3956923fcef", func := "parclose/parcloselaw21.DirAsks", spec := "dirAsks", inPlace := ["internal/bytealg.IndexByteString", "internal/bytealg.IndexString"], unfollowed := true, recurses := true, named := ["internal/bytealg.MaxLen"], apart := false }
def DirAsksSaid : Prop := dirAsksRow.holds Try.pinned (OpenSpec.ofChange dirAsksSpec)

/-- ITS FALSE NEIGHBOUR: 'it returns false'. Refute it at one input. -/
def dirAsksWrong : ChangeSpec := { name := "dirAsks", fn := fun _ => fun
  | [d1, d2, d3, d4] => { results := [.lit (.bool false)], args := [d1, d2, d3, d4] }
  | _ => none }
def DirAsksWrongFalsely : Prop := dirAsksRow.holds Try.pinned (OpenSpec.ofChange dirAsksWrong)

/-- 'parcloselaw21.DirTurns': WHATEVER THE INPUT: true; the input reads as it did. -/
def dirTurnsSpec : ChangeSpec := { name := "dirTurns", fn := fun _ => fun
  | [d1, d2, d3] => { results := [.lit (.bool true)], args := [d1, d2, d3] }
  | _ => none }
def dirTurnsRow : OpenClaim := { program := "ytgpanbmjmpondaa", sum := "df3d4362a1c90728fcc868e925373b3ca6267cc67f795cf4c24cf3956923fcef", func := "parclose/parcloselaw21.DirTurns", spec := "dirTurns", inPlace := ["internal/bytealg.IndexByteString", "internal/bytealg.IndexString"], unfollowed := true, recurses := true, named := ["internal/bytealg.MaxLen"], apart := false }
def DirTurnsSaid : Prop := dirTurnsRow.holds Try.pinned (OpenSpec.ofChange dirTurnsSpec)

/-- ITS FALSE NEIGHBOUR: 'it returns false'. Refute it at one input. -/
def dirTurnsWrong : ChangeSpec := { name := "dirTurns", fn := fun _ => fun
  | [d1, d2, d3] => { results := [.lit (.bool false)], args := [d1, d2, d3] }
  | _ => none }
def DirTurnsWrongFalsely : Prop := dirTurnsRow.holds Try.pinned (OpenSpec.ofChange dirTurnsWrong)

/-- 'parcloselaw21.DirKeeps': WHATEVER THE INPUT: true; the input reads as it did. -/
def dirKeepsSpec : ChangeSpec := { name := "dirKeeps", fn := fun _ => fun
  | [d] => { results := [.lit (.bool true)], args := [d] }
  | _ => none }
def dirKeepsRow : OpenClaim := { program := "ytgpanbmjmpondaa", sum := "df3d4362a1c90728fcc868e925373b3ca6267cc67f795cf4c24cf3956923fcef", func := "parclose/parcloselaw21.DirKeeps", spec := "dirKeeps", inPlace := ["internal/bytealg.IndexByteString", "internal/bytealg.IndexString"], unfollowed := true, recurses := true, named := ["internal/bytealg.MaxLen"], apart := false }
def DirKeepsSaid : Prop := dirKeepsRow.holds Try.pinned (OpenSpec.ofChange dirKeepsSpec)

/-- ITS FALSE NEIGHBOUR: 'it returns false'. Refute it at one input. -/
def dirKeepsWrong : ChangeSpec := { name := "dirKeeps", fn := fun _ => fun
  | [d] => { results := [.lit (.bool false)], args := [d] }
  | _ => none }
def DirKeepsWrongFalsely : Prop := dirKeepsRow.holds Try.pinned (OpenSpec.ofChange dirKeepsWrong)

/-- 'parcloselaw21.DirPieces': WHATEVER THE INPUT: true; the input reads as it did. -/
def dirPiecesSpec : ChangeSpec := { name := "dirPieces", fn := fun _ => fun
  | [d1, d2, d3] => { results := [.lit (.bool true)], args := [d1, d2, d3] }
  | _ => none }
def dirPiecesRow : OpenClaim := { program := "ytgpanbmjmpondaa", sum := "df3d4362a1c90728fcc868e925373b3ca6267cc67f795cf4c24cf3956923fcef", func := "parclose/parcloselaw21.DirPieces", spec := "dirPieces", inPlace := ["internal/bytealg.IndexByteString", "internal/bytealg.IndexString"], unfollowed := true, recurses := true, named := ["internal/bytealg.MaxLen"], apart := false }
def DirPiecesSaid : Prop := dirPiecesRow.holds Try.pinned (OpenSpec.ofChange dirPiecesSpec)

/-- ITS FALSE NEIGHBOUR: 'it returns false'. Refute it at one input. -/
def dirPiecesWrong : ChangeSpec := { name := "dirPieces", fn := fun _ => fun
  | [d1, d2, d3] => { results := [.lit (.bool false)], args := [d1, d2, d3] }
  | _ => none }
def DirPiecesWrongFalsely : Prop := dirPiecesRow.holds Try.pinned (OpenSpec.ofChange dirPiecesWrong)

/- THE SECOND FORM. 'bulk': how many values and letters a reading holds, each counted each time it is reached (what is shared counts as often as it is met; a slice's spare places count too). A statement '..UptoSaid' is the law's where the arguments, and the package variables that the reading takes, are together of bulk at most 1048576: NARROWER than '..Said'. Prove '..Said' where nothing that the law and all that it calls make is longer than what came in: it says more and counts as full. Else prove '..UptoSaid'. A law counts once. -/
mutual
def uptoBulk {H : Type} : DataW H → Nat
  | .lit (.string bytes) => bytes.length + 1
  | .lit _ => 1
  | .nil => 1
  | .ptr d => uptoBulk d + 1
  | .slice elems spare => uptoBulkAll elems + uptoBulkAll spare + 1
  | .agg parts => uptoBulkAll parts + 1
  | .iface _ d => uptoBulk d + 1
  | .map entries => uptoBulkEntries entries + 1
  | .held _ => 1
def uptoBulkAll {H : Type} : List (DataW H) → Nat
  | [] => 0
  | d :: r => uptoBulk d + uptoBulkAll r
def uptoBulkEntries {H : Type} : List (Lit × DataW H) → Nat
  | [] => 0
  | x :: r => uptoBulkEntry x + uptoBulkEntries r
def uptoBulkEntry {H : Type} : Lit × DataW H → Nat
  | (.string bytes, d) => bytes.length + uptoBulk d + 1
  | (_, d) => uptoBulk d + 1
 end
def uptoSmall : (H : Type) → List (DataW H) → Bool := fun _ ds => decide (uptoBulkAll ds ≤ 1048576)
def OpenSpec.upto (s : _root_.Go.ChangeSpec) : _root_.Go.OpenSpec := { _root_.Go.OpenSpec.ofChange s with cond := some uptoSmall }

/-- 'parcloselaw21.DirAsks', WHERE WHAT IT READS IS OF BULK AT MOST 1048576: true; the input reads as it did. -/
def dirAsksUptoRow : OpenClaim := { program := "ytgpanbmjmpondaa", sum := "df3d4362a1c90728fcc868e925373b3ca6267cc67f795cf4c24cf3956923fcef", func := "parclose/parcloselaw21.DirAsks", spec := "dirAsks", inPlace := ["internal/bytealg.IndexByteString", "internal/bytealg.IndexString"], unfollowed := true, recurses := true, named := ["internal/bytealg.MaxLen"], apart := false, narrowed := true }
def DirAsksUptoSaid : Prop := dirAsksUptoRow.holds Try.pinned (OpenSpec.upto dirAsksSpec)

/-- 'parcloselaw21.DirTurns', WHERE WHAT IT READS IS OF BULK AT MOST 1048576: true; the input reads as it did. -/
def dirTurnsUptoRow : OpenClaim := { program := "ytgpanbmjmpondaa", sum := "df3d4362a1c90728fcc868e925373b3ca6267cc67f795cf4c24cf3956923fcef", func := "parclose/parcloselaw21.DirTurns", spec := "dirTurns", inPlace := ["internal/bytealg.IndexByteString", "internal/bytealg.IndexString"], unfollowed := true, recurses := true, named := ["internal/bytealg.MaxLen"], apart := false, narrowed := true }
def DirTurnsUptoSaid : Prop := dirTurnsUptoRow.holds Try.pinned (OpenSpec.upto dirTurnsSpec)

/-- 'parcloselaw21.DirKeeps', WHERE WHAT IT READS IS OF BULK AT MOST 1048576: true; the input reads as it did. -/
def dirKeepsUptoRow : OpenClaim := { program := "ytgpanbmjmpondaa", sum := "df3d4362a1c90728fcc868e925373b3ca6267cc67f795cf4c24cf3956923fcef", func := "parclose/parcloselaw21.DirKeeps", spec := "dirKeeps", inPlace := ["internal/bytealg.IndexByteString", "internal/bytealg.IndexString"], unfollowed := true, recurses := true, named := ["internal/bytealg.MaxLen"], apart := false, narrowed := true }
def DirKeepsUptoSaid : Prop := dirKeepsUptoRow.holds Try.pinned (OpenSpec.upto dirKeepsSpec)

/-- 'parcloselaw21.DirPieces', WHERE WHAT IT READS IS OF BULK AT MOST 1048576: true; the input reads as it did. -/
def dirPiecesUptoRow : OpenClaim := { program := "ytgpanbmjmpondaa", sum := "df3d4362a1c90728fcc868e925373b3ca6267cc67f795cf4c24cf3956923fcef", func := "parclose/parcloselaw21.DirPieces", spec := "dirPieces", inPlace := ["internal/bytealg.IndexByteString", "internal/bytealg.IndexString"], unfollowed := true, recurses := true, named := ["internal/bytealg.MaxLen"], apart := false, narrowed := true }
def DirPiecesUptoSaid : Prop := dirPiecesUptoRow.holds Try.pinned (OpenSpec.upto dirPiecesSpec)

end Rows
end Go.Proofs.Ytgpanbmjmpondaa
