/-
  No cell of these rows narrows 'for every input' (looked for: loops, veiled, ifaces, maps, wideKeys, modest, calm, conditions, laid).
  DERIVED. THE GIVEN ROWS OF THIS SEAT. 6 by the template 'for every input the law returns true; each argument reads behind the call as it read before'; 0 by the template 'total and deterministic' (their statements: YtpepgblmcjgbgaaTotals.lean).
  GIVEN WITH THE SEED: the statements are not yours to turn. If you find one false, say at which input.
  Laid BY PROGRAM, IN A SANDBOX (cutbox-rows.mjs): the forced cells as the released guide's own fill.sh prints them over the translation 447c1ecc59780941… (all of the seat's roots in one cut). By AI agents, Wed Nov 11 2026. No macro, syntax, notation, axiom, sorry.
-/
import Derived.Test.YtpepgblmcjgbgaaChecked
import GoSem.Claim
import GoSem.ClaimJoined
import GoSem.ClaimMapViews
import Derived.JoinedTies
import Derived.KernelRfl
namespace Go.Proofs.Ytpepgblmcjgbgaa
/- THE CELL 'sum', in the pinned program and in every row, IS THE sha256 OF THE DUMP (.gsa) THAT YtpepgblmcjgbgaaProg.lean LOADS. Nothing in Lean hashes anything: it is a label: what it is worth is what the hold of that sum in a sandbox is worth. -/
noncomputable def Try.pinned : Pinned := { name := "ytpepgblmcjgbgaa", sum := "447c1ecc59780941a76b163b2ba9856df260b26302b0f70299a484dd1f2096d2", checked := Try.checked }
namespace Rows
def none {H : Type} : Left H := { results := [], args := [] }

/-- 'yardlaw15.StationOnce': WHATEVER THE INPUT: true; the input reads as it did. -/
def stationOnceSpec : ChangeSpec := { name := "stationOnce", fn := fun _ => fun
  | [d1, d2] => { results := [.lit (.bool true)], args := [d1, d2] }
  | _ => none }
def stationOnceRow : OpenClaim := { program := "ytpepgblmcjgbgaa", sum := "447c1ecc59780941a76b163b2ba9856df260b26302b0f70299a484dd1f2096d2", func := "switchyard/yardlaw15.StationOnce", spec := "stationOnce", apart := false }
def StationOnceSaid : Prop := stationOnceRow.holds Try.pinned (OpenSpec.ofChange stationOnceSpec)

/-- ITS FALSE NEIGHBOUR: 'it returns false'. Refute it at one input. -/
def stationOnceWrong : ChangeSpec := { name := "stationOnce", fn := fun _ => fun
  | [d1, d2] => { results := [.lit (.bool false)], args := [d1, d2] }
  | _ => none }
def StationOnceWrongFalsely : Prop := stationOnceRow.holds Try.pinned (OpenSpec.ofChange stationOnceWrong)

/-- 'yardlaw15.StationDeaf': WHATEVER THE INPUT: true; the input reads as it did. -/
def stationDeafSpec : ChangeSpec := { name := "stationDeaf", fn := fun _ => fun
  | [d1, d2] => { results := [.lit (.bool true)], args := [d1, d2] }
  | _ => none }
def stationDeafRow : OpenClaim := { program := "ytpepgblmcjgbgaa", sum := "447c1ecc59780941a76b163b2ba9856df260b26302b0f70299a484dd1f2096d2", func := "switchyard/yardlaw15.StationDeaf", spec := "stationDeaf", apart := false }
def StationDeafSaid : Prop := stationDeafRow.holds Try.pinned (OpenSpec.ofChange stationDeafSpec)

/-- ITS FALSE NEIGHBOUR: 'it returns false'. Refute it at one input. -/
def stationDeafWrong : ChangeSpec := { name := "stationDeaf", fn := fun _ => fun
  | [d1, d2] => { results := [.lit (.bool false)], args := [d1, d2] }
  | _ => none }
def StationDeafWrongFalsely : Prop := stationDeafRow.holds Try.pinned (OpenSpec.ofChange stationDeafWrong)

/-- 'yardlaw15.StationToggles': WHATEVER THE INPUT: true; the input reads as it did. -/
def stationTogglesSpec : ChangeSpec := { name := "stationToggles", fn := fun _ => fun
  | [d] => { results := [.lit (.bool true)], args := [d] }
  | _ => none }
def stationTogglesRow : OpenClaim := { program := "ytpepgblmcjgbgaa", sum := "447c1ecc59780941a76b163b2ba9856df260b26302b0f70299a484dd1f2096d2", func := "switchyard/yardlaw15.StationToggles", spec := "stationToggles", apart := false }
def StationTogglesSaid : Prop := stationTogglesRow.holds Try.pinned (OpenSpec.ofChange stationTogglesSpec)

/-- ITS FALSE NEIGHBOUR: 'it returns false'. Refute it at one input. -/
def stationTogglesWrong : ChangeSpec := { name := "stationToggles", fn := fun _ => fun
  | [d] => { results := [.lit (.bool false)], args := [d] }
  | _ => none }
def StationTogglesWrongFalsely : Prop := stationTogglesRow.holds Try.pinned (OpenSpec.ofChange stationTogglesWrong)

/-- 'yardlaw15.StationAnswers': WHATEVER THE INPUT: true; the input reads as it did. -/
def stationAnswersSpec : ChangeSpec := { name := "stationAnswers", fn := fun _ => fun
  | [d1, d2] => { results := [.lit (.bool true)], args := [d1, d2] }
  | _ => none }
def stationAnswersRow : OpenClaim := { program := "ytpepgblmcjgbgaa", sum := "447c1ecc59780941a76b163b2ba9856df260b26302b0f70299a484dd1f2096d2", func := "switchyard/yardlaw15.StationAnswers", spec := "stationAnswers", apart := false }
def StationAnswersSaid : Prop := stationAnswersRow.holds Try.pinned (OpenSpec.ofChange stationAnswersSpec)

/-- ITS FALSE NEIGHBOUR: 'it returns false'. Refute it at one input. -/
def stationAnswersWrong : ChangeSpec := { name := "stationAnswers", fn := fun _ => fun
  | [d1, d2] => { results := [.lit (.bool false)], args := [d1, d2] }
  | _ => none }
def StationAnswersWrongFalsely : Prop := stationAnswersRow.holds Try.pinned (OpenSpec.ofChange stationAnswersWrong)

/-- 'yardlaw15.StationResets': WHATEVER THE INPUT: true; the input reads as it did. -/
def stationResetsSpec : ChangeSpec := { name := "stationResets", fn := fun _ => fun
  | [d1, d2] => { results := [.lit (.bool true)], args := [d1, d2] }
  | _ => none }
def stationResetsRow : OpenClaim := { program := "ytpepgblmcjgbgaa", sum := "447c1ecc59780941a76b163b2ba9856df260b26302b0f70299a484dd1f2096d2", func := "switchyard/yardlaw15.StationResets", spec := "stationResets", apart := false }
def StationResetsSaid : Prop := stationResetsRow.holds Try.pinned (OpenSpec.ofChange stationResetsSpec)

/-- ITS FALSE NEIGHBOUR: 'it returns false'. Refute it at one input. -/
def stationResetsWrong : ChangeSpec := { name := "stationResets", fn := fun _ => fun
  | [d1, d2] => { results := [.lit (.bool false)], args := [d1, d2] }
  | _ => none }
def StationResetsWrongFalsely : Prop := stationResetsRow.holds Try.pinned (OpenSpec.ofChange stationResetsWrong)

/-- 'yardlaw15.StationTakes': WHATEVER THE INPUT: true; the input reads as it did. -/
def stationTakesSpec : ChangeSpec := { name := "stationTakes", fn := fun _ => fun
  | [d1, d2, d3, d4, d5] => { results := [.lit (.bool true)], args := [d1, d2, d3, d4, d5] }
  | _ => none }
def stationTakesRow : OpenClaim := { program := "ytpepgblmcjgbgaa", sum := "447c1ecc59780941a76b163b2ba9856df260b26302b0f70299a484dd1f2096d2", func := "switchyard/yardlaw15.StationTakes", spec := "stationTakes", apart := false }
def StationTakesSaid : Prop := stationTakesRow.holds Try.pinned (OpenSpec.ofChange stationTakesSpec)

/-- ITS FALSE NEIGHBOUR: 'it returns false'. Refute it at one input. -/
def stationTakesWrong : ChangeSpec := { name := "stationTakes", fn := fun _ => fun
  | [d1, d2, d3, d4, d5] => { results := [.lit (.bool false)], args := [d1, d2, d3, d4, d5] }
  | _ => none }
def StationTakesWrongFalsely : Prop := stationTakesRow.holds Try.pinned (OpenSpec.ofChange stationTakesWrong)

/- THE SECOND FORM. 'bulk': how many values and letters a reading holds, each counted each time it is reached (what is shared counts as often as it is met; a slice's spare places count too). A statement '..UptoSaid' is the law's where the arguments, and the package variables that the reading takes, are together of bulk at most 1048576: NARROWER than '..Said'. Prove '..Said' where nothing that the law and all that it calls make is longer than what came in: it says more and counts as full. Else prove '..UptoSaid'. A law counts once. -/
mutual
def uptoBulk {H : Type} : DataW H → Nat
  | .lit (.string bytes) => bytes.length + 1
  | .lit _ => 1
  | .nil => 1
  | .ptr d => uptoBulk d + 1
  | .slice elems spare => uptoBulkAll elems + uptoBulkAll spare + 1
  | .agg parts => uptoBulkAll parts + 1
  | .iface _ d => uptoBulk d + 1
  | .map entries => uptoBulkEntries entries + 1
  | .held _ => 1
def uptoBulkAll {H : Type} : List (DataW H) → Nat
  | [] => 0
  | d :: r => uptoBulk d + uptoBulkAll r
def uptoBulkEntries {H : Type} : List (Lit × DataW H) → Nat
  | [] => 0
  | x :: r => uptoBulkEntry x + uptoBulkEntries r
def uptoBulkEntry {H : Type} : Lit × DataW H → Nat
  | (.string bytes, d) => bytes.length + uptoBulk d + 1
  | (_, d) => uptoBulk d + 1
 end
def uptoSmall : (H : Type) → List (DataW H) → Bool := fun _ ds => decide (uptoBulkAll ds ≤ 1048576)
def OpenSpec.upto (s : _root_.Go.ChangeSpec) : _root_.Go.OpenSpec := { _root_.Go.OpenSpec.ofChange s with cond := some uptoSmall }

/-- 'yardlaw15.StationOnce', WHERE WHAT IT READS IS OF BULK AT MOST 1048576: true; the input reads as it did. -/
def stationOnceUptoRow : OpenClaim := { program := "ytpepgblmcjgbgaa", sum := "447c1ecc59780941a76b163b2ba9856df260b26302b0f70299a484dd1f2096d2", func := "switchyard/yardlaw15.StationOnce", spec := "stationOnce", apart := false, narrowed := true }
def StationOnceUptoSaid : Prop := stationOnceUptoRow.holds Try.pinned (OpenSpec.upto stationOnceSpec)

/-- 'yardlaw15.StationDeaf', WHERE WHAT IT READS IS OF BULK AT MOST 1048576: true; the input reads as it did. -/
def stationDeafUptoRow : OpenClaim := { program := "ytpepgblmcjgbgaa", sum := "447c1ecc59780941a76b163b2ba9856df260b26302b0f70299a484dd1f2096d2", func := "switchyard/yardlaw15.StationDeaf", spec := "stationDeaf", apart := false, narrowed := true }
def StationDeafUptoSaid : Prop := stationDeafUptoRow.holds Try.pinned (OpenSpec.upto stationDeafSpec)

/-- 'yardlaw15.StationToggles', WHERE WHAT IT READS IS OF BULK AT MOST 1048576: true; the input reads as it did. -/
def stationTogglesUptoRow : OpenClaim := { program := "ytpepgblmcjgbgaa", sum := "447c1ecc59780941a76b163b2ba9856df260b26302b0f70299a484dd1f2096d2", func := "switchyard/yardlaw15.StationToggles", spec := "stationToggles", apart := false, narrowed := true }
def StationTogglesUptoSaid : Prop := stationTogglesUptoRow.holds Try.pinned (OpenSpec.upto stationTogglesSpec)

/-- 'yardlaw15.StationAnswers', WHERE WHAT IT READS IS OF BULK AT MOST 1048576: true; the input reads as it did. -/
def stationAnswersUptoRow : OpenClaim := { program := "ytpepgblmcjgbgaa", sum := "447c1ecc59780941a76b163b2ba9856df260b26302b0f70299a484dd1f2096d2", func := "switchyard/yardlaw15.StationAnswers", spec := "stationAnswers", apart := false, narrowed := true }
def StationAnswersUptoSaid : Prop := stationAnswersUptoRow.holds Try.pinned (OpenSpec.upto stationAnswersSpec)

/-- 'yardlaw15.StationResets', WHERE WHAT IT READS IS OF BULK AT MOST 1048576: true; the input reads as it did. -/
def stationResetsUptoRow : OpenClaim := { program := "ytpepgblmcjgbgaa", sum := "447c1ecc59780941a76b163b2ba9856df260b26302b0f70299a484dd1f2096d2", func := "switchyard/yardlaw15.StationResets", spec := "stationResets", apart := false, narrowed := true }
def StationResetsUptoSaid : Prop := stationResetsUptoRow.holds Try.pinned (OpenSpec.upto stationResetsSpec)

/-- 'yardlaw15.StationTakes', WHERE WHAT IT READS IS OF BULK AT MOST 1048576: true; the input reads as it did. -/
def stationTakesUptoRow : OpenClaim := { program := "ytpepgblmcjgbgaa", sum := "447c1ecc59780941a76b163b2ba9856df260b26302b0f70299a484dd1f2096d2", func := "switchyard/yardlaw15.StationTakes", spec := "stationTakes", apart := false, narrowed := true }
def StationTakesUptoSaid : Prop := stationTakesUptoRow.holds Try.pinned (OpenSpec.upto stationTakesSpec)

end Rows
end Go.Proofs.Ytpepgblmcjgbgaa
