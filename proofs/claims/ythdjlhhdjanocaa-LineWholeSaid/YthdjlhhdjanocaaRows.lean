/-
  No cell of these rows narrows 'for every input' (looked for: loops, veiled, ifaces, maps, wideKeys, modest, calm, conditions, laid).
  DERIVED. THE GIVEN ROWS OF THIS SEAT. 4 by the template 'for every input the law returns true; each argument reads behind the call as it read before'; 0 by the template 'total and deterministic' (their statements: YthdjlhhdjanocaaTotals.lean).
  GIVEN WITH THE SEED: the statements are not yours to turn. If you find one false, say at which input.
  Laid BY PROGRAM, IN A SANDBOX (cutbox-rows.mjs): the forced cells as the released guide's own fill.sh prints them over the translation 675a234fc804e2df… (all of the seat's roots in one cut). By AI agents, Wed Nov 11 2026. No macro, syntax, notation, axiom, sorry.
-/
import Derived.Test.YthdjlhhdjanocaaChecked
import GoSem.Claim
import GoSem.ClaimJoined
import GoSem.ClaimMapViews
import Derived.JoinedTies
import Derived.KernelRfl
namespace Go.Proofs.Ythdjlhhdjanocaa
/- THE CELL 'sum', in the pinned program and in every row, IS THE sha256 OF THE DUMP (.gsa) THAT YthdjlhhdjanocaaProg.lean LOADS. Nothing in Lean hashes anything: it is a label: what it is worth is what the hold of that sum in a sandbox is worth. -/
noncomputable def Try.pinned : Pinned := { name := "ythdjlhhdjanocaa", sum := "675a234fc804e2dfd3de8738a8a1f739cefb4c06cc5270913bf6ee22a49216ee", checked := Try.checked }
namespace Rows
def none {H : Type} : Left H := { results := [], args := [] }

/-- 'yardlaw24.LineWhole': WHATEVER THE INPUT: true; the input reads as it did. -/
def lineWholeSpec : ChangeSpec := { name := "lineWhole", fn := fun _ => fun
  | [d1, d2, d3] => { results := [.lit (.bool true)], args := [d1, d2, d3] }
  | _ => none }
def lineWholeRow : OpenClaim := { program := "ythdjlhhdjanocaa", sum := "675a234fc804e2dfd3de8738a8a1f739cefb4c06cc5270913bf6ee22a49216ee", func := "switchyard/yardlaw24.LineWhole", spec := "lineWhole", apart := false }
def LineWholeSaid : Prop := lineWholeRow.holds Try.pinned (OpenSpec.ofChange lineWholeSpec)

/-- ITS FALSE NEIGHBOUR: 'it returns false'. Refute it at one input. -/
def lineWholeWrong : ChangeSpec := { name := "lineWhole", fn := fun _ => fun
  | [d1, d2, d3] => { results := [.lit (.bool false)], args := [d1, d2, d3] }
  | _ => none }
def LineWholeWrongFalsely : Prop := lineWholeRow.holds Try.pinned (OpenSpec.ofChange lineWholeWrong)

/-- 'yardlaw24.LineFaults': WHATEVER THE INPUT: true; the input reads as it did. -/
def lineFaultsSpec : ChangeSpec := { name := "lineFaults", fn := fun _ => fun
  | [d1, d2, d3, d4, d5] => { results := [.lit (.bool true)], args := [d1, d2, d3, d4, d5] }
  | _ => none }
def lineFaultsRow : OpenClaim := { program := "ythdjlhhdjanocaa", sum := "675a234fc804e2dfd3de8738a8a1f739cefb4c06cc5270913bf6ee22a49216ee", func := "switchyard/yardlaw24.LineFaults", spec := "lineFaults", apart := false }
def LineFaultsSaid : Prop := lineFaultsRow.holds Try.pinned (OpenSpec.ofChange lineFaultsSpec)

/-- ITS FALSE NEIGHBOUR: 'it returns false'. Refute it at one input. -/
def lineFaultsWrong : ChangeSpec := { name := "lineFaults", fn := fun _ => fun
  | [d1, d2, d3, d4, d5] => { results := [.lit (.bool false)], args := [d1, d2, d3, d4, d5] }
  | _ => none }
def LineFaultsWrongFalsely : Prop := lineFaultsRow.holds Try.pinned (OpenSpec.ofChange lineFaultsWrong)

/-- 'yardlaw24.LinePlays': WHATEVER THE INPUT: true; the input reads as it did. -/
def linePlaysSpec : ChangeSpec := { name := "linePlays", fn := fun _ => fun
  | [d] => { results := [.lit (.bool true)], args := [d] }
  | _ => none }
def linePlaysRow : OpenClaim := { program := "ythdjlhhdjanocaa", sum := "675a234fc804e2dfd3de8738a8a1f739cefb4c06cc5270913bf6ee22a49216ee", func := "switchyard/yardlaw24.LinePlays", spec := "linePlays", apart := false }
def LinePlaysSaid : Prop := linePlaysRow.holds Try.pinned (OpenSpec.ofChange linePlaysSpec)

/-- ITS FALSE NEIGHBOUR: 'it returns false'. Refute it at one input. -/
def linePlaysWrong : ChangeSpec := { name := "linePlays", fn := fun _ => fun
  | [d] => { results := [.lit (.bool false)], args := [d] }
  | _ => none }
def LinePlaysWrongFalsely : Prop := linePlaysRow.holds Try.pinned (OpenSpec.ofChange linePlaysWrong)

/-- 'yardlaw24.LineOwn': WHATEVER THE INPUT: true; the input reads as it did. -/
def lineOwnSpec : ChangeSpec := { name := "lineOwn", fn := fun _ => fun
  | [d1, d2] => { results := [.lit (.bool true)], args := [d1, d2] }
  | _ => none }
def lineOwnRow : OpenClaim := { program := "ythdjlhhdjanocaa", sum := "675a234fc804e2dfd3de8738a8a1f739cefb4c06cc5270913bf6ee22a49216ee", func := "switchyard/yardlaw24.LineOwn", spec := "lineOwn", apart := false }
def LineOwnSaid : Prop := lineOwnRow.holds Try.pinned (OpenSpec.ofChange lineOwnSpec)

/-- ITS FALSE NEIGHBOUR: 'it returns false'. Refute it at one input. -/
def lineOwnWrong : ChangeSpec := { name := "lineOwn", fn := fun _ => fun
  | [d1, d2] => { results := [.lit (.bool false)], args := [d1, d2] }
  | _ => none }
def LineOwnWrongFalsely : Prop := lineOwnRow.holds Try.pinned (OpenSpec.ofChange lineOwnWrong)

/- THE SECOND FORM. 'bulk': how many values and letters a reading holds, each counted each time it is reached (what is shared counts as often as it is met; a slice's spare places count too). A statement '..UptoSaid' is the law's where the arguments, and the package variables that the reading takes, are together of bulk at most 1048576: NARROWER than '..Said'. Prove '..Said' where nothing that the law and all that it calls make is longer than what came in: it says more and counts as full. Else prove '..UptoSaid'. A law counts once. -/
mutual
def uptoBulk {H : Type} : DataW H → Nat
  | .lit (.string bytes) => bytes.length + 1
  | .lit _ => 1
  | .nil => 1
  | .ptr d => uptoBulk d + 1
  | .slice elems spare => uptoBulkAll elems + uptoBulkAll spare + 1
  | .agg parts => uptoBulkAll parts + 1
  | .iface _ d => uptoBulk d + 1
  | .map entries => uptoBulkEntries entries + 1
  | .held _ => 1
def uptoBulkAll {H : Type} : List (DataW H) → Nat
  | [] => 0
  | d :: r => uptoBulk d + uptoBulkAll r
def uptoBulkEntries {H : Type} : List (Lit × DataW H) → Nat
  | [] => 0
  | x :: r => uptoBulkEntry x + uptoBulkEntries r
def uptoBulkEntry {H : Type} : Lit × DataW H → Nat
  | (.string bytes, d) => bytes.length + uptoBulk d + 1
  | (_, d) => uptoBulk d + 1
 end
def uptoSmall : (H : Type) → List (DataW H) → Bool := fun _ ds => decide (uptoBulkAll ds ≤ 1048576)
def OpenSpec.upto (s : _root_.Go.ChangeSpec) : _root_.Go.OpenSpec := { _root_.Go.OpenSpec.ofChange s with cond := some uptoSmall }

/-- 'yardlaw24.LineWhole', WHERE WHAT IT READS IS OF BULK AT MOST 1048576: true; the input reads as it did. -/
def lineWholeUptoRow : OpenClaim := { program := "ythdjlhhdjanocaa", sum := "675a234fc804e2dfd3de8738a8a1f739cefb4c06cc5270913bf6ee22a49216ee", func := "switchyard/yardlaw24.LineWhole", spec := "lineWhole", apart := false, narrowed := true }
def LineWholeUptoSaid : Prop := lineWholeUptoRow.holds Try.pinned (OpenSpec.upto lineWholeSpec)

/-- 'yardlaw24.LineFaults', WHERE WHAT IT READS IS OF BULK AT MOST 1048576: true; the input reads as it did. -/
def lineFaultsUptoRow : OpenClaim := { program := "ythdjlhhdjanocaa", sum := "675a234fc804e2dfd3de8738a8a1f739cefb4c06cc5270913bf6ee22a49216ee", func := "switchyard/yardlaw24.LineFaults", spec := "lineFaults", apart := false, narrowed := true }
def LineFaultsUptoSaid : Prop := lineFaultsUptoRow.holds Try.pinned (OpenSpec.upto lineFaultsSpec)

/-- 'yardlaw24.LinePlays', WHERE WHAT IT READS IS OF BULK AT MOST 1048576: true; the input reads as it did. -/
def linePlaysUptoRow : OpenClaim := { program := "ythdjlhhdjanocaa", sum := "675a234fc804e2dfd3de8738a8a1f739cefb4c06cc5270913bf6ee22a49216ee", func := "switchyard/yardlaw24.LinePlays", spec := "linePlays", apart := false, narrowed := true }
def LinePlaysUptoSaid : Prop := linePlaysUptoRow.holds Try.pinned (OpenSpec.upto linePlaysSpec)

/-- 'yardlaw24.LineOwn', WHERE WHAT IT READS IS OF BULK AT MOST 1048576: true; the input reads as it did. -/
def lineOwnUptoRow : OpenClaim := { program := "ythdjlhhdjanocaa", sum := "675a234fc804e2dfd3de8738a8a1f739cefb4c06cc5270913bf6ee22a49216ee", func := "switchyard/yardlaw24.LineOwn", spec := "lineOwn", apart := false, narrowed := true }
def LineOwnUptoSaid : Prop := lineOwnUptoRow.holds Try.pinned (OpenSpec.upto lineOwnSpec)

end Rows
end Go.Proofs.Ythdjlhhdjanocaa
