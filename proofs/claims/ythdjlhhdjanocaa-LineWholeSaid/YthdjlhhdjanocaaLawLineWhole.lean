/- 'LineWhole' answers true at every input and leaves its arguments as they were: the law's row, its arguments opened by their types, over the walk. Conditions: none beyond the row's own. -/
import Derived.Test.YthdjlhhdjanocaaRows
import Derived.WalkKit
import Derived.ProofKit
import Derived.OpenShut
import Derived.ShutString
import Derived.ChangeOld
import Derived.Below
import Derived.Test.YthdjlhhdjanocaaKinds
import Derived.Test.YthdjlhhdjanocaaLnJ
namespace Go.Proofs.Ythdjlhhdjanocaa.lineWhole
open Go.ChangeShapes Go.WideShapes Go.ChangeAt Go.RowKit Go.Proofs.YthdjlhhdjanocaaW.PrintWords
open Go.ChangeMaps (open_string shut_string)
set_option linter.unusedVariables false

theorem own : ownKnob Try.prog.godebug = none := by kernel_rfl
theorem laidOut : laidOutB Try.prog = true := by kernel_rfl

theorem walk (a0 : Option Addr) (len0 cap0 : Nat) (x0 : List (List Int)) (a1 : Option Addr) (len1 cap1 : Nat) (x1 : List Int) (a2 : Option Addr) (len2 cap2 : Nat) (x2 : List Int) (w : World) (c0 : (Kd.slice 5 (Kd.int .u8)).C w a0 len0 x0) (l0 : len0 ≤ cap0) (o0 : (fun xs => ∀ x ∈ xs, (fun xs => ∀ x ∈ xs, (fun n => (Lit.int .u8 n).wf = true) x) x) x0) (c1 : (Kd.int .i64).C w a1 len1 x1) (l1 : len1 ≤ cap1) (o1 : (fun xs => ∀ x ∈ xs, (fun n => (Lit.int .i64 n).wf = true) x) x1) (c2 : (Kd.int .i64).C w a2 len2 x2) (l2 : len2 ≤ cap2) (o2 : (fun xs => ∀ x ∈ xs, (fun n => (Lit.int .i64 n).wf = true) x) x2) :
    Calls Try.prog 3 #[.slice a0 len0 cap0, .slice a1 len1 cap1, .slice a2 len2 cap2] w fun e w' => e = .returned (.bool true) ∧ Below w.heap.size w w' := by
  exact whole_law a0 len0 cap0 x0 a1 len1 cap1 x1 a2 len2 cap2 x2 w c0 (fun o ho => wf_bytes (o0 o ho)) c1 c2

set_option maxRecDepth 100000 in
theorem lifted (os : Os) (started : os.Started) (H : Type) (enc : TypeId × Value → H) :
    ReturnsInHanded {} Try.checked os 3 .any (Rows.lineWholeSpec.pre6 enc Try.prog Try.f3 Rows.lineWholeRow.domain false) (Rows.lineWholeSpec.post enc Try.prog Try.f3 false true false false) := by
  refine returnsInHanded_of_change (C := Try.checked) own started (by kernel_rfl) Try.func3
    (ChangeSpec.witness6 (enc := enc) (C := Try.checked) false ⟨#[], #[.slice none 0 0, .slice none 0 0, .slice none 0 0], []⟩ 8 (by kernel_rfl) (by kernel_rfl) (by kernel_rfl) (by kernel_rfl)) ?_
  intro W base args ds gs before hval0 hW hcnd _
  have hval : ∀ (j : Nat) t v, Try.f3.params[j]? = some t → args[j]? = some v → Value.okWide Try.prog W .any base t v := hval0
  have hW' := hW
  obtain ⟨p, q, hA0, hV, rfl, hfz, hnd⟩ := hW
  have hA : DataW.TrodAll enc Try.prog W 0 (fun _ => true) true Try.f3.params.toList args.toList ds p := hA0
  rw [Try.params3] at hA hval
  obtain ⟨v0, vs0, d0, ds0, p0, q0, hargs, rfl, rfl, h0, r0⟩ := trodAll_cons hA
  obtain ⟨v1, vs1, d1, ds1, p1, q1, rfl, rfl, rfl, h1, r1⟩ := trodAll_cons r0
  obtain ⟨v2, vs2, d2, ds2, p2, q2, rfl, rfl, rfl, h2, r2⟩ := trodAll_cons r1
  obtain ⟨rfl, rfl, rfl⟩ := trodAll_nil r2
  obtain rfl : args = #[v0, v1, v2] := by cases args; simp_all
  obtain ⟨rfl, rfl⟩ := trodVars_none hV
  obtain ⟨a0, len0, cap0, rfl⟩ := okWide_slice Try.underlying22 (hval 0 22 v0 rfl rfl)
  have kk0 := h0
  have lt0 : ∀ x ∈ p0, x.block < W.heap.size := by obtain ⟨m, hm⟩ := kk0; exact DataW.trod_lt m _ _ _ hm
  obtain ⟨x0, c0, l0, o0⟩ := open_row (opens_slice (E := 27) Try.underlying22 (by kernel_rfl) (opens_slice (E := 5) Try.underlying27 (by kernel_rfl) (opens_int Try.underlying5))) h0
  obtain ⟨a1, len1, cap1, rfl⟩ := okWide_slice Try.underlying23 (hval 1 23 v1 rfl rfl)
  have kk1 := h1
  have lt1 : ∀ x ∈ p1, x.block < W.heap.size := by obtain ⟨m, hm⟩ := kk1; exact DataW.trod_lt m _ _ _ hm
  obtain ⟨x1, c1, l1, o1⟩ := open_row (opens_slice (E := 3) Try.underlying23 (by kernel_rfl) (opens_int Try.underlying3)) h1
  obtain ⟨a2, len2, cap2, rfl⟩ := okWide_slice Try.underlying23 (hval 2 23 v2 rfl rfl)
  have kk2 := h2
  have lt2 : ∀ x ∈ p2, x.block < W.heap.size := by obtain ⟨m, hm⟩ := kk2; exact DataW.trod_lt m _ _ _ hm
  obtain ⟨x2, c2, l2, o2⟩ := open_row (opens_slice (E := 3) Try.underlying23 (by kernel_rfl) (opens_int Try.underlying3)) h2
  clear hA0 hval0
  refine (walk a0 len0 cap0 x0 a1 len1 cap1 x1 a2 len2 cap2 x2 W c0 l0 o0 c1 l1 o1 c2 l2 o2).mono fun e W' ⟨he, bel⟩ => ?_
  subst he
  exact ⟨_, rfl, _, _, _, [], _, [], hW', trodAll_mk1 (shut_bool Try.underlying4 _), (trodAll_cons_mk (Below.trod laidOut (by kernel_rfl) (of_decide_eq_true (by kernel_rfl)) kk0 bel lt0) (trodAll_cons_mk (Below.trod laidOut (by kernel_rfl) (of_decide_eq_true (by kernel_rfl)) kk1 bel lt1) (trodAll_cons_mk (Below.trod laidOut (by kernel_rfl) (of_decide_eq_true (by kernel_rfl)) kk2 bel lt2) trodAll_mk0))), rfl, bel.frame _, fun h => by cases h⟩

theorem over : Rows.lineWholeRow.holds Try.pinned (OpenSpec.ofChange Rows.lineWholeSpec) :=
  OpenClaim.holds_of_wide 3 Try.f3 rfl rfl rfl rfl rfl rfl rfl ⟨rfl, rfl, rfl, rfl, rfl⟩ rfl rfl rfl rfl rfl (by kernel_rfl) Try.func3 (by kernel_rfl)
    (of_decide_eq_true (by kernel_rfl)) (by unfold Func.isWrapper; first | (rw [if_pos (by decide +kernel)]; kernel_rfl) | (rw [if_neg (by decide +kernel)]; exact ⟨rfl, rfl⟩))
    (fun os started H enc _ => lifted os started H enc)
theorem proved : Rows.LineWholeSaid := over
#print axioms proved
end Go.Proofs.Ythdjlhhdjanocaa.lineWhole
namespace Go.Proofs.Ythdjlhhdjanocaa
/-- The row, under a short name, for the claim. -/
theorem lineWhole_holds : Rows.LineWholeSaid := lineWhole.proved
end Go.Proofs.Ythdjlhhdjanocaa
