/-
  No cell of these rows narrows 'for every input' (looked for: loops, veiled, ifaces, maps, wideKeys, modest, calm, conditions, laid).
  DERIVED. THE GIVEN ROWS OF THIS SEAT. 5 by the template 'for every input the law returns true; each argument reads behind the call as it read before'; 0 by the template 'total and deterministic' (their statements: YtoieognhjebcpaaTotals.lean).
  GIVEN WITH THE SEED: the statements are not yours to turn. If you find one false, say at which input.
  Laid BY PROGRAM, IN A SANDBOX (cutbox-rows.mjs): the forced cells as the released guide's own fill.sh prints them over the translation a6576b8b471a4a15… (all of the seat's roots in one cut). By AI agents, Wed Nov 11 2026. No macro, syntax, notation, axiom, sorry.
-/
import Derived.Test.YtoieognhjebcpaaChecked
import GoSem.Claim
import GoSem.ClaimJoined
import GoSem.ClaimMapViews
import Derived.JoinedTies
import Derived.KernelRfl
namespace Go.Proofs.Ytoieognhjebcpaa
/- THE CELL 'sum', in the pinned program and in every row, IS THE sha256 OF THE DUMP (.gsa) THAT YtoieognhjebcpaaProg.lean LOADS. Nothing in Lean hashes anything: it is a label: what it is worth is what the hold of that sum in a sandbox is worth. -/
noncomputable def Try.pinned : Pinned := { name := "ytoieognhjebcpaa", sum := "a6576b8b471a4a150b5bed6cfe2256052618cc3658b220c8061d31603e36e4ae", checked := Try.checked }
namespace Rows
def none {H : Type} : Left H := { results := [], args := [] }

/-- 'yardlaw20.SboOnce': WHATEVER THE INPUT: true; the input reads as it did. -/
def sboOnceSpec : ChangeSpec := { name := "sboOnce", fn := fun _ => fun
  | [d1, d2, d3, d4, d5, d6, d7] => { results := [.lit (.bool true)], args := [d1, d2, d3, d4, d5, d6, d7] }
  | _ => none }
def sboOnceRow : OpenClaim := { program := "ytoieognhjebcpaa", sum := "a6576b8b471a4a150b5bed6cfe2256052618cc3658b220c8061d31603e36e4ae", func := "switchyard/yardlaw20.SboOnce", spec := "sboOnce", apart := false }
def SboOnceSaid : Prop := sboOnceRow.holds Try.pinned (OpenSpec.ofChange sboOnceSpec)

/-- ITS FALSE NEIGHBOUR: 'it returns false'. Refute it at one input. -/
def sboOnceWrong : ChangeSpec := { name := "sboOnce", fn := fun _ => fun
  | [d1, d2, d3, d4, d5, d6, d7] => { results := [.lit (.bool false)], args := [d1, d2, d3, d4, d5, d6, d7] }
  | _ => none }
def SboOnceWrongFalsely : Prop := sboOnceRow.holds Try.pinned (OpenSpec.ofChange sboOnceWrong)

/-- 'yardlaw20.SboTimes': WHATEVER THE INPUT: true; the input reads as it did. -/
def sboTimesSpec : ChangeSpec := { name := "sboTimes", fn := fun _ => fun
  | [d1, d2, d3, d4, d5, d6] => { results := [.lit (.bool true)], args := [d1, d2, d3, d4, d5, d6] }
  | _ => none }
def sboTimesRow : OpenClaim := { program := "ytoieognhjebcpaa", sum := "a6576b8b471a4a150b5bed6cfe2256052618cc3658b220c8061d31603e36e4ae", func := "switchyard/yardlaw20.SboTimes", spec := "sboTimes", apart := false }
def SboTimesSaid : Prop := sboTimesRow.holds Try.pinned (OpenSpec.ofChange sboTimesSpec)

/-- ITS FALSE NEIGHBOUR: 'it returns false'. Refute it at one input. -/
def sboTimesWrong : ChangeSpec := { name := "sboTimes", fn := fun _ => fun
  | [d1, d2, d3, d4, d5, d6] => { results := [.lit (.bool false)], args := [d1, d2, d3, d4, d5, d6] }
  | _ => none }
def SboTimesWrongFalsely : Prop := sboTimesRow.holds Try.pinned (OpenSpec.ofChange sboTimesWrong)

/-- 'yardlaw20.SboPlays': WHATEVER THE INPUT: true; the input reads as it did. -/
def sboPlaysSpec : ChangeSpec := { name := "sboPlays", fn := fun _ => fun
  | [d1, d2] => { results := [.lit (.bool true)], args := [d1, d2] }
  | _ => none }
def sboPlaysRow : OpenClaim := { program := "ytoieognhjebcpaa", sum := "a6576b8b471a4a150b5bed6cfe2256052618cc3658b220c8061d31603e36e4ae", func := "switchyard/yardlaw20.SboPlays", spec := "sboPlays", apart := false }
def SboPlaysSaid : Prop := sboPlaysRow.holds Try.pinned (OpenSpec.ofChange sboPlaysSpec)

/-- ITS FALSE NEIGHBOUR: 'it returns false'. Refute it at one input. -/
def sboPlaysWrong : ChangeSpec := { name := "sboPlays", fn := fun _ => fun
  | [d1, d2] => { results := [.lit (.bool false)], args := [d1, d2] }
  | _ => none }
def SboPlaysWrongFalsely : Prop := sboPlaysRow.holds Try.pinned (OpenSpec.ofChange sboPlaysWrong)

/-- 'yardlaw20.SboLast': WHATEVER THE INPUT: true; the input reads as it did. -/
def sboLastSpec : ChangeSpec := { name := "sboLast", fn := fun _ => fun
  | [d1, d2, d3, d4, d5, d6] => { results := [.lit (.bool true)], args := [d1, d2, d3, d4, d5, d6] }
  | _ => none }
def sboLastRow : OpenClaim := { program := "ytoieognhjebcpaa", sum := "a6576b8b471a4a150b5bed6cfe2256052618cc3658b220c8061d31603e36e4ae", func := "switchyard/yardlaw20.SboLast", spec := "sboLast", apart := false }
def SboLastSaid : Prop := sboLastRow.holds Try.pinned (OpenSpec.ofChange sboLastSpec)

/-- ITS FALSE NEIGHBOUR: 'it returns false'. Refute it at one input. -/
def sboLastWrong : ChangeSpec := { name := "sboLast", fn := fun _ => fun
  | [d1, d2, d3, d4, d5, d6] => { results := [.lit (.bool false)], args := [d1, d2, d3, d4, d5, d6] }
  | _ => none }
def SboLastWrongFalsely : Prop := sboLastRow.holds Try.pinned (OpenSpec.ofChange sboLastWrong)

/-- 'yardlaw20.SboCopies': WHATEVER THE INPUT: true; the input reads as it did. -/
def sboCopiesSpec : ChangeSpec := { name := "sboCopies", fn := fun _ => fun
  | [d1, d2, d3, d4] => { results := [.lit (.bool true)], args := [d1, d2, d3, d4] }
  | _ => none }
def sboCopiesRow : OpenClaim := { program := "ytoieognhjebcpaa", sum := "a6576b8b471a4a150b5bed6cfe2256052618cc3658b220c8061d31603e36e4ae", func := "switchyard/yardlaw20.SboCopies", spec := "sboCopies", apart := false }
def SboCopiesSaid : Prop := sboCopiesRow.holds Try.pinned (OpenSpec.ofChange sboCopiesSpec)

/-- ITS FALSE NEIGHBOUR: 'it returns false'. Refute it at one input. -/
def sboCopiesWrong : ChangeSpec := { name := "sboCopies", fn := fun _ => fun
  | [d1, d2, d3, d4] => { results := [.lit (.bool false)], args := [d1, d2, d3, d4] }
  | _ => none }
def SboCopiesWrongFalsely : Prop := sboCopiesRow.holds Try.pinned (OpenSpec.ofChange sboCopiesWrong)

/- THE SECOND FORM. 'bulk': how many values and letters a reading holds, each counted each time it is reached (what is shared counts as often as it is met; a slice's spare places count too). A statement '..UptoSaid' is the law's where the arguments, and the package variables that the reading takes, are together of bulk at most 1048576: NARROWER than '..Said'. Prove '..Said' where nothing that the law and all that it calls make is longer than what came in: it says more and counts as full. Else prove '..UptoSaid'. A law counts once. -/
mutual
def uptoBulk {H : Type} : DataW H → Nat
  | .lit (.string bytes) => bytes.length + 1
  | .lit _ => 1
  | .nil => 1
  | .ptr d => uptoBulk d + 1
  | .slice elems spare => uptoBulkAll elems + uptoBulkAll spare + 1
  | .agg parts => uptoBulkAll parts + 1
  | .iface _ d => uptoBulk d + 1
  | .map entries => uptoBulkEntries entries + 1
  | .held _ => 1
def uptoBulkAll {H : Type} : List (DataW H) → Nat
  | [] => 0
  | d :: r => uptoBulk d + uptoBulkAll r
def uptoBulkEntries {H : Type} : List (Lit × DataW H) → Nat
  | [] => 0
  | x :: r => uptoBulkEntry x + uptoBulkEntries r
def uptoBulkEntry {H : Type} : Lit × DataW H → Nat
  | (.string bytes, d) => bytes.length + uptoBulk d + 1
  | (_, d) => uptoBulk d + 1
 end
def uptoSmall : (H : Type) → List (DataW H) → Bool := fun _ ds => decide (uptoBulkAll ds ≤ 1048576)
def OpenSpec.upto (s : _root_.Go.ChangeSpec) : _root_.Go.OpenSpec := { _root_.Go.OpenSpec.ofChange s with cond := some uptoSmall }

/-- 'yardlaw20.SboOnce', WHERE WHAT IT READS IS OF BULK AT MOST 1048576: true; the input reads as it did. -/
def sboOnceUptoRow : OpenClaim := { program := "ytoieognhjebcpaa", sum := "a6576b8b471a4a150b5bed6cfe2256052618cc3658b220c8061d31603e36e4ae", func := "switchyard/yardlaw20.SboOnce", spec := "sboOnce", apart := false, narrowed := true }
def SboOnceUptoSaid : Prop := sboOnceUptoRow.holds Try.pinned (OpenSpec.upto sboOnceSpec)

/-- 'yardlaw20.SboTimes', WHERE WHAT IT READS IS OF BULK AT MOST 1048576: true; the input reads as it did. -/
def sboTimesUptoRow : OpenClaim := { program := "ytoieognhjebcpaa", sum := "a6576b8b471a4a150b5bed6cfe2256052618cc3658b220c8061d31603e36e4ae", func := "switchyard/yardlaw20.SboTimes", spec := "sboTimes", apart := false, narrowed := true }
def SboTimesUptoSaid : Prop := sboTimesUptoRow.holds Try.pinned (OpenSpec.upto sboTimesSpec)

/-- 'yardlaw20.SboPlays', WHERE WHAT IT READS IS OF BULK AT MOST 1048576: true; the input reads as it did. -/
def sboPlaysUptoRow : OpenClaim := { program := "ytoieognhjebcpaa", sum := "a6576b8b471a4a150b5bed6cfe2256052618cc3658b220c8061d31603e36e4ae", func := "switchyard/yardlaw20.SboPlays", spec := "sboPlays", apart := false, narrowed := true }
def SboPlaysUptoSaid : Prop := sboPlaysUptoRow.holds Try.pinned (OpenSpec.upto sboPlaysSpec)

/-- 'yardlaw20.SboLast', WHERE WHAT IT READS IS OF BULK AT MOST 1048576: true; the input reads as it did. -/
def sboLastUptoRow : OpenClaim := { program := "ytoieognhjebcpaa", sum := "a6576b8b471a4a150b5bed6cfe2256052618cc3658b220c8061d31603e36e4ae", func := "switchyard/yardlaw20.SboLast", spec := "sboLast", apart := false, narrowed := true }
def SboLastUptoSaid : Prop := sboLastUptoRow.holds Try.pinned (OpenSpec.upto sboLastSpec)

/-- 'yardlaw20.SboCopies', WHERE WHAT IT READS IS OF BULK AT MOST 1048576: true; the input reads as it did. -/
def sboCopiesUptoRow : OpenClaim := { program := "ytoieognhjebcpaa", sum := "a6576b8b471a4a150b5bed6cfe2256052618cc3658b220c8061d31603e36e4ae", func := "switchyard/yardlaw20.SboCopies", spec := "sboCopies", apart := false, narrowed := true }
def SboCopiesUptoSaid : Prop := sboCopiesUptoRow.holds Try.pinned (OpenSpec.upto sboCopiesSpec)

end Rows
end Go.Proofs.Ytoieognhjebcpaa
