/- 'LineFaults' answers true at every input and leaves its arguments as they were: the law's row, its arguments opened by their types, over the walk. Conditions: none beyond the row's own. -/
import Derived.Test.YthdjlhhdjanocaaRows
import Derived.WalkKit
import Derived.ProofKit
import Derived.OpenShut
import Derived.ShutString
import Derived.ChangeOld
import Derived.Below
import Derived.Test.YthdjlhhdjanocaaKinds
import Derived.Test.YthdjlhhdjanocaaLnG
namespace Go.Proofs.Ythdjlhhdjanocaa.lineFaults
open Go.ChangeShapes Go.WideShapes Go.ChangeAt Go.RowKit Go.Proofs.YthdjlhhdjanocaaW.PrintWords
open Go.ChangeMaps (open_string shut_string)
set_option linter.unusedVariables false

theorem own : ownKnob Try.prog.godebug = none := by kernel_rfl
theorem laidOut : laidOutB Try.prog = true := by kernel_rfl

theorem walk (a0 : Int) (a1 : Int) (a2 : Option Addr) (len2 cap2 : Nat) (x2 : List Int) (a3 : Option Addr) (len3 cap3 : Nat) (x3 : List Int) (a4 : Option Addr) (len4 cap4 : Nat) (x4 : List Int) (w : World) (w0 : (Lit.int .i64 a0).wf = true) (w1 : (Lit.int .i64 a1).wf = true) (c2 : (Kd.int .u8).C w a2 len2 x2) (l2 : len2 ≤ cap2) (o2 : (fun xs => ∀ x ∈ xs, (fun n => (Lit.int .u8 n).wf = true) x) x2) (c3 : (Kd.int .u8).C w a3 len3 x3) (l3 : len3 ≤ cap3) (o3 : (fun xs => ∀ x ∈ xs, (fun n => (Lit.int .u8 n).wf = true) x) x3) (c4 : (Kd.int .u8).C w a4 len4 x4) (l4 : len4 ≤ cap4) (o4 : (fun xs => ∀ x ∈ xs, (fun n => (Lit.int .u8 n).wf = true) x) x4) :
    Calls Try.prog 4 #[.int .i64 a0, .int .i64 a1, .slice a2 len2 cap2, .slice a3 len3 cap3, .slice a4 len4 cap4] w fun e w' => e = .returned (.bool true) ∧ Below w.heap.size w w' := by
  obtain rfl := c2.1; obtain rfl := c3.1; obtain rfl := c4.1; exact faults_law a0 a1 a2 a3 a4 cap2 cap3 cap4 x2 x3 x4 w c2 c3 c4 (wf_bytes o2) (wf_bytes o3) (wf_bytes o4)

set_option maxRecDepth 100000 in
theorem lifted (os : Os) (started : os.Started) (H : Type) (enc : TypeId × Value → H) :
    ReturnsInHanded {} Try.checked os 4 .any (Rows.lineFaultsSpec.pre6 enc Try.prog Try.f4 Rows.lineFaultsRow.domain false) (Rows.lineFaultsSpec.post enc Try.prog Try.f4 false true false false) := by
  refine returnsInHanded_of_change (C := Try.checked) own started (by kernel_rfl) Try.func4
    (ChangeSpec.witness6 (enc := enc) (C := Try.checked) false ⟨#[], #[.int .i64 0, .int .i64 0, .slice none 0 0, .slice none 0 0, .slice none 0 0], []⟩ 8 (by kernel_rfl) (by kernel_rfl) (by kernel_rfl) (by kernel_rfl)) ?_
  intro W base args ds gs before hval0 hW hcnd _
  have hval : ∀ (j : Nat) t v, Try.f4.params[j]? = some t → args[j]? = some v → Value.okWide Try.prog W .any base t v := hval0
  have hW' := hW
  obtain ⟨p, q, hA0, hV, rfl, hfz, hnd⟩ := hW
  have hA : DataW.TrodAll enc Try.prog W 0 (fun _ => true) true Try.f4.params.toList args.toList ds p := hA0
  rw [Try.params4] at hA hval
  obtain ⟨v0, vs0, d0, ds0, p0, q0, hargs, rfl, rfl, h0, r0⟩ := trodAll_cons hA
  obtain ⟨v1, vs1, d1, ds1, p1, q1, rfl, rfl, rfl, h1, r1⟩ := trodAll_cons r0
  obtain ⟨v2, vs2, d2, ds2, p2, q2, rfl, rfl, rfl, h2, r2⟩ := trodAll_cons r1
  obtain ⟨v3, vs3, d3, ds3, p3, q3, rfl, rfl, rfl, h3, r3⟩ := trodAll_cons r2
  obtain ⟨v4, vs4, d4, ds4, p4, q4, rfl, rfl, rfl, h4, r4⟩ := trodAll_cons r3
  obtain ⟨rfl, rfl, rfl⟩ := trodAll_nil r4
  obtain rfl : args = #[v0, v1, v2, v3, v4] := by cases args; simp_all
  obtain ⟨rfl, rfl⟩ := trodVars_none hV
  obtain ⟨a0, rfl, rfl, rfl, w0⟩ := open_int Try.underlying3 (hval 0 3 v0 rfl rfl) h0
  obtain ⟨a1, rfl, rfl, rfl, w1⟩ := open_int Try.underlying3 (hval 1 3 v1 rfl rfl) h1
  obtain ⟨a2, len2, cap2, rfl⟩ := okWide_slice Try.underlying27 (hval 2 27 v2 rfl rfl)
  have kk2 := h2
  have lt2 : ∀ x ∈ p2, x.block < W.heap.size := by obtain ⟨m, hm⟩ := kk2; exact DataW.trod_lt m _ _ _ hm
  obtain ⟨x2, c2, l2, o2⟩ := open_row (opens_slice (E := 5) Try.underlying27 (by kernel_rfl) (opens_int Try.underlying5)) h2
  obtain ⟨a3, len3, cap3, rfl⟩ := okWide_slice Try.underlying27 (hval 3 27 v3 rfl rfl)
  have kk3 := h3
  have lt3 : ∀ x ∈ p3, x.block < W.heap.size := by obtain ⟨m, hm⟩ := kk3; exact DataW.trod_lt m _ _ _ hm
  obtain ⟨x3, c3, l3, o3⟩ := open_row (opens_slice (E := 5) Try.underlying27 (by kernel_rfl) (opens_int Try.underlying5)) h3
  obtain ⟨a4, len4, cap4, rfl⟩ := okWide_slice Try.underlying27 (hval 4 27 v4 rfl rfl)
  have kk4 := h4
  have lt4 : ∀ x ∈ p4, x.block < W.heap.size := by obtain ⟨m, hm⟩ := kk4; exact DataW.trod_lt m _ _ _ hm
  obtain ⟨x4, c4, l4, o4⟩ := open_row (opens_slice (E := 5) Try.underlying27 (by kernel_rfl) (opens_int Try.underlying5)) h4
  clear hA0 hval0
  refine (walk a0 a1 a2 len2 cap2 x2 a3 len3 cap3 x3 a4 len4 cap4 x4 W w0 w1 c2 l2 o2 c3 l3 o3 c4 l4 o4).mono fun e W' ⟨he, bel⟩ => ?_
  subst he
  exact ⟨_, rfl, _, _, _, [], _, [], hW', trodAll_mk1 (shut_bool Try.underlying4 _), (trodAll_cons_mk (shut_int Try.underlying3 w0) (trodAll_cons_mk (shut_int Try.underlying3 w1) (trodAll_cons_mk (Below.trod laidOut (by kernel_rfl) (of_decide_eq_true (by kernel_rfl)) kk2 bel lt2) (trodAll_cons_mk (Below.trod laidOut (by kernel_rfl) (of_decide_eq_true (by kernel_rfl)) kk3 bel lt3) (trodAll_cons_mk (Below.trod laidOut (by kernel_rfl) (of_decide_eq_true (by kernel_rfl)) kk4 bel lt4) trodAll_mk0))))), rfl, bel.frame _, fun h => by cases h⟩

theorem over : Rows.lineFaultsRow.holds Try.pinned (OpenSpec.ofChange Rows.lineFaultsSpec) :=
  OpenClaim.holds_of_wide 4 Try.f4 rfl rfl rfl rfl rfl rfl rfl ⟨rfl, rfl, rfl, rfl, rfl⟩ rfl rfl rfl rfl rfl (by kernel_rfl) Try.func4 (by kernel_rfl)
    (of_decide_eq_true (by kernel_rfl)) (by unfold Func.isWrapper; first | (rw [if_pos (by decide +kernel)]; kernel_rfl) | (rw [if_neg (by decide +kernel)]; exact ⟨rfl, rfl⟩))
    (fun os started H enc _ => lifted os started H enc)
theorem proved : Rows.LineFaultsSaid := over
#print axioms proved
end Go.Proofs.Ythdjlhhdjanocaa.lineFaults
namespace Go.Proofs.Ythdjlhhdjanocaa
/-- The row, under a short name, for the claim. -/
theorem lineFaults_holds : Rows.LineFaultsSaid := lineFaults.proved
end Go.Proofs.Ythdjlhhdjanocaa
