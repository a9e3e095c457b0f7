/-
  No cell of these rows narrows 'for every input' (looked for: loops, veiled, ifaces, maps, wideKeys, modest, calm, conditions, laid).
  DERIVED. THE GIVEN ROWS OF THIS SEAT. 4 by the template 'for every input the law returns true; each argument reads behind the call as it read before'; 0 by the template 'total and deterministic' (their statements: YtmicilnmphkpmaaTotals.lean).
  GIVEN WITH THE SEED: the statements are not yours to turn. If you find one false, say at which input.
  Laid BY PROGRAM, IN A SANDBOX (cutbox-rows.mjs): the forced cells as the released guide's own fill.sh prints them over the translation 697b7121ee68cfa5… (all of the seat's roots in one cut). By AI agents, Wed Nov 11 2026. No macro, syntax, notation, axiom, sorry.
-/
import Derived.Test.YtmicilnmphkpmaaChecked
import GoSem.Claim
import GoSem.ClaimJoined
import GoSem.ClaimMapViews
import Derived.JoinedTies
import Derived.KernelRfl
namespace Go.Proofs.Ytmicilnmphkpmaa
/- THE CELL 'sum', in the pinned program and in every row, IS THE sha256 OF THE DUMP (.gsa) THAT YtmicilnmphkpmaaProg.lean LOADS. Nothing in Lean hashes anything: it is a label: what it is worth is what the hold of that sum in a sandbox is worth. -/
noncomputable def Try.pinned : Pinned := { name := "ytmicilnmphkpmaa", sum := "697b7121ee68cfa514678579fdd6759efa5a93b8818033192b3293dcf4a957f3", checked := Try.checked }
namespace Rows
def none {H : Type} : Left H := { results := [], args := [] }

/-- 'parcloselaw27.DescPlays': WHATEVER THE INPUT: true; the input reads as it did. -/
def descPlaysSpec : ChangeSpec := { name := "descPlays", fn := fun _ => fun
  | [d] => { results := [.lit (.bool true)], args := [d] }
  | _ => none }
def descPlaysRow : OpenClaim := { program := "ytmicilnmphkpmaa", sum := "697b7121ee68cfa514678579fdd6759efa5a93b8818033192b3293dcf4a957f3", func := "parclose/parcloselaw27.DescPlays", spec := "descPlays", apart := false }
def DescPlaysSaid : Prop := descPlaysRow.holds Try.pinned (OpenSpec.ofChange descPlaysSpec)

/-- ITS FALSE NEIGHBOUR: 'it returns false'. Refute it at one input. -/
def descPlaysWrong : ChangeSpec := { name := "descPlays", fn := fun _ => fun
  | [d] => { results := [.lit (.bool false)], args := [d] }
  | _ => none }
def DescPlaysWrongFalsely : Prop := descPlaysRow.holds Try.pinned (OpenSpec.ofChange descPlaysWrong)

/-- 'parcloselaw27.DescShares': WHATEVER THE INPUT: true; the input reads as it did. -/
def descSharesSpec : ChangeSpec := { name := "descShares", fn := fun _ => fun
  | [d] => { results := [.lit (.bool true)], args := [d] }
  | _ => none }
def descSharesRow : OpenClaim := { program := "ytmicilnmphkpmaa", sum := "697b7121ee68cfa514678579fdd6759efa5a93b8818033192b3293dcf4a957f3", func := "parclose/parcloselaw27.DescShares", spec := "descShares", apart := false }
def DescSharesSaid : Prop := descSharesRow.holds Try.pinned (OpenSpec.ofChange descSharesSpec)

/-- ITS FALSE NEIGHBOUR: 'it returns false'. Refute it at one input. -/
def descSharesWrong : ChangeSpec := { name := "descShares", fn := fun _ => fun
  | [d] => { results := [.lit (.bool false)], args := [d] }
  | _ => none }
def DescSharesWrongFalsely : Prop := descSharesRow.holds Try.pinned (OpenSpec.ofChange descSharesWrong)

/-- 'parcloselaw27.DescLeast': WHATEVER THE INPUT: true; the input reads as it did. -/
def descLeastSpec : ChangeSpec := { name := "descLeast", fn := fun _ => fun
  | [d1, d2] => { results := [.lit (.bool true)], args := [d1, d2] }
  | _ => none }
def descLeastRow : OpenClaim := { program := "ytmicilnmphkpmaa", sum := "697b7121ee68cfa514678579fdd6759efa5a93b8818033192b3293dcf4a957f3", func := "parclose/parcloselaw27.DescLeast", spec := "descLeast", apart := false }
def DescLeastSaid : Prop := descLeastRow.holds Try.pinned (OpenSpec.ofChange descLeastSpec)

/-- ITS FALSE NEIGHBOUR: 'it returns false'. Refute it at one input. -/
def descLeastWrong : ChangeSpec := { name := "descLeast", fn := fun _ => fun
  | [d1, d2] => { results := [.lit (.bool false)], args := [d1, d2] }
  | _ => none }
def DescLeastWrongFalsely : Prop := descLeastRow.holds Try.pinned (OpenSpec.ofChange descLeastWrong)

/-- 'parcloselaw27.DescNil': WHATEVER THE INPUT: true; the input reads as it did. -/
def descNilSpec : ChangeSpec := { name := "descNil", fn := fun _ => fun
  | [d1, d2, d3] => { results := [.lit (.bool true)], args := [d1, d2, d3] }
  | _ => none }
def descNilRow : OpenClaim := { program := "ytmicilnmphkpmaa", sum := "697b7121ee68cfa514678579fdd6759efa5a93b8818033192b3293dcf4a957f3", func := "parclose/parcloselaw27.DescNil", spec := "descNil", apart := false }
def DescNilSaid : Prop := descNilRow.holds Try.pinned (OpenSpec.ofChange descNilSpec)

/-- ITS FALSE NEIGHBOUR: 'it returns false'. Refute it at one input. -/
def descNilWrong : ChangeSpec := { name := "descNil", fn := fun _ => fun
  | [d1, d2, d3] => { results := [.lit (.bool false)], args := [d1, d2, d3] }
  | _ => none }
def DescNilWrongFalsely : Prop := descNilRow.holds Try.pinned (OpenSpec.ofChange descNilWrong)

/- THE SECOND FORM. 'bulk': how many values and letters a reading holds, each counted each time it is reached (what is shared counts as often as it is met; a slice's spare places count too). A statement '..UptoSaid' is the law's where the arguments, and the package variables that the reading takes, are together of bulk at most 1048576: NARROWER than '..Said'. Prove '..Said' where nothing that the law and all that it calls make is longer than what came in: it says more and counts as full. Else prove '..UptoSaid'. A law counts once. -/
mutual
def uptoBulk {H : Type} : DataW H → Nat
  | .lit (.string bytes) => bytes.length + 1
  | .lit _ => 1
  | .nil => 1
  | .ptr d => uptoBulk d + 1
  | .slice elems spare => uptoBulkAll elems + uptoBulkAll spare + 1
  | .agg parts => uptoBulkAll parts + 1
  | .iface _ d => uptoBulk d + 1
  | .map entries => uptoBulkEntries entries + 1
  | .held _ => 1
def uptoBulkAll {H : Type} : List (DataW H) → Nat
  | [] => 0
  | d :: r => uptoBulk d + uptoBulkAll r
def uptoBulkEntries {H : Type} : List (Lit × DataW H) → Nat
  | [] => 0
  | x :: r => uptoBulkEntry x + uptoBulkEntries r
def uptoBulkEntry {H : Type} : Lit × DataW H → Nat
  | (.string bytes, d) => bytes.length + uptoBulk d + 1
  | (_, d) => uptoBulk d + 1
 end
def uptoSmall : (H : Type) → List (DataW H) → Bool := fun _ ds => decide (uptoBulkAll ds ≤ 1048576)
def OpenSpec.upto (s : _root_.Go.ChangeSpec) : _root_.Go.OpenSpec := { _root_.Go.OpenSpec.ofChange s with cond := some uptoSmall }

/-- 'parcloselaw27.DescPlays', WHERE WHAT IT READS IS OF BULK AT MOST 1048576: true; the input reads as it did. -/
def descPlaysUptoRow : OpenClaim := { program := "ytmicilnmphkpmaa", sum := "697b7121ee68cfa514678579fdd6759efa5a93b8818033192b3293dcf4a957f3", func := "parclose/parcloselaw27.DescPlays", spec := "descPlays", apart := false, narrowed := true }
def DescPlaysUptoSaid : Prop := descPlaysUptoRow.holds Try.pinned (OpenSpec.upto descPlaysSpec)

/-- 'parcloselaw27.DescShares', WHERE WHAT IT READS IS OF BULK AT MOST 1048576: true; the input reads as it did. -/
def descSharesUptoRow : OpenClaim := { program := "ytmicilnmphkpmaa", sum := "697b7121ee68cfa514678579fdd6759efa5a93b8818033192b3293dcf4a957f3", func := "parclose/parcloselaw27.DescShares", spec := "descShares", apart := false, narrowed := true }
def DescSharesUptoSaid : Prop := descSharesUptoRow.holds Try.pinned (OpenSpec.upto descSharesSpec)

/-- 'parcloselaw27.DescLeast', WHERE WHAT IT READS IS OF BULK AT MOST 1048576: true; the input reads as it did. -/
def descLeastUptoRow : OpenClaim := { program := "ytmicilnmphkpmaa", sum := "697b7121ee68cfa514678579fdd6759efa5a93b8818033192b3293dcf4a957f3", func := "parclose/parcloselaw27.DescLeast", spec := "descLeast", apart := false, narrowed := true }
def DescLeastUptoSaid : Prop := descLeastUptoRow.holds Try.pinned (OpenSpec.upto descLeastSpec)

/-- 'parcloselaw27.DescNil', WHERE WHAT IT READS IS OF BULK AT MOST 1048576: true; the input reads as it did. -/
def descNilUptoRow : OpenClaim := { program := "ytmicilnmphkpmaa", sum := "697b7121ee68cfa514678579fdd6759efa5a93b8818033192b3293dcf4a957f3", func := "parclose/parcloselaw27.DescNil", spec := "descNil", apart := false, narrowed := true }
def DescNilUptoSaid : Prop := descNilUptoRow.holds Try.pinned (OpenSpec.upto descNilSpec)

end Rows
end Go.Proofs.Ytmicilnmphkpmaa
