/- 'StationDeaf' answers true at every input and leaves its arguments as they were: the law's row, its arguments opened by their types, over the walk. Conditions: none beyond the row's own. -/
import Derived.Test.YtpepgblmcjgbgaaRows
import Derived.WalkKit
import Derived.ProofKit
import Derived.OpenShut
import Derived.ShutString
import Derived.ChangeOld
import Derived.Below
import Derived.Test.YtpepgblmcjgbgaaKinds
import Derived.Test.YtpepgblmcjgbgaaStH
namespace Go.Proofs.Ytpepgblmcjgbgaa.stationDeaf
open Go.ChangeShapes Go.WideShapes Go.ChangeAt Go.RowKit Go.Proofs.YtpepgblmcjgbgaaW.PrintWords
open Go.ChangeMaps (open_string shut_string)
set_option linter.unusedVariables false

theorem own : ownKnob Try.prog.godebug = none := by kernel_rfl
theorem laidOut : laidOutB Try.prog = true := by kernel_rfl

theorem walk (a0 : Option Addr) (len0 cap0 : Nat) (x0 : List K_link_Frame) (x1 : K_link_Frame) (A3_1 : Option Addr) (c3_1 : Nat) (w : World) (c0 : kdK_link_Frame.C w a0 len0 x0) (l0 : len0 ≤ cap0) (o0 : (fun xs => ∀ x ∈ xs, okK_link_Frame x) x0) (k1 : (x1.Data).length ≤ c3_1 ∧ (Kd.int .u8).C w A3_1 (x1.Data).length x1.Data) (o1 : okK_link_Frame x1) :
    Calls Try.prog 4 #[.slice a0 len0 cap0, .agg #[.int .i64 x1.Ctl, .int .i64 x1.Dest, .int .i64 x1.Src, .slice A3_1 (x1.Data).length c3_1]] w fun e w' => e = .returned (.bool true) ∧ Below w.heap.size w w' := by
  exact deaf_law a0 len0 cap0 x0 x1 A3_1 c3_1 w c0 k1.2 (wf_bytes o1.2.2.2) k1.1

set_option maxRecDepth 100000 in
theorem lifted (os : Os) (started : os.Started) (H : Type) (enc : TypeId × Value → H) :
    ReturnsInHanded {} Try.checked os 4 .any (Rows.stationDeafSpec.pre6 enc Try.prog Try.f4 Rows.stationDeafRow.domain false) (Rows.stationDeafSpec.post enc Try.prog Try.f4 false true false false) := by
  refine returnsInHanded_of_change (C := Try.checked) own started (by kernel_rfl) Try.func4
    (ChangeSpec.witness6 (enc := enc) (C := Try.checked) false ⟨#[], #[.slice none 0 0, .agg #[.int .i64 0, .int .i64 0, .int .i64 0, .slice none 0 0]], []⟩ 8 (by kernel_rfl) (by kernel_rfl) (by kernel_rfl) (by kernel_rfl)) ?_
  intro W base args ds gs before hval0 hW hcnd _
  have hval : ∀ (j : Nat) t v, Try.f4.params[j]? = some t → args[j]? = some v → Value.okWide Try.prog W .any base t v := hval0
  have hW' := hW
  obtain ⟨p, q, hA0, hV, rfl, hfz, hnd⟩ := hW
  have hA : DataW.TrodAll enc Try.prog W 0 (fun _ => true) true Try.f4.params.toList args.toList ds p := hA0
  rw [Try.params4] at hA hval
  obtain ⟨v0, vs0, d0, ds0, p0, q0, hargs, rfl, rfl, h0, r0⟩ := trodAll_cons hA
  obtain ⟨v1, vs1, d1, ds1, p1, q1, rfl, rfl, rfl, h1, r1⟩ := trodAll_cons r0
  obtain ⟨rfl, rfl, rfl⟩ := trodAll_nil r1
  obtain rfl : args = #[v0, v1] := by cases args; simp_all
  obtain ⟨rfl, rfl⟩ := trodVars_none hV
  obtain ⟨a0, len0, cap0, rfl⟩ := okWide_slice Try.underlying35 (hval 0 35 v0 rfl rfl)
  have kk0 := h0
  have lt0 : ∀ x ∈ p0, x.block < W.heap.size := by obtain ⟨m, hm⟩ := kk0; exact DataW.trod_lt m _ _ _ hm
  obtain ⟨x0, c0, l0, o0⟩ := open_row (opens_slice (E := 29) Try.underlying35 (by kernel_rfl) opens_K_link_Frame) h0
  obtain ⟨cs1, rfl, _⟩ := okWide_struct Try.underlying29 (hval 1 29 v1 rfl rfl)
  have kk1 := h1
  have lt1 : ∀ x ∈ p1, x.block < W.heap.size := by obtain ⟨m, hm⟩ := kk1; exact DataW.trod_lt m _ _ _ hm
  obtain ⟨x1, kd1, o1⟩ := open_cells opens_K_link_Frame h1
  obtain ⟨A3_1, c3_1, hcs1, k1⟩ := K_link_Frame_open kd1
  obtain rfl : cs1 = #[.int .i64 x1.Ctl, .int .i64 x1.Dest, .int .i64 x1.Src, .slice A3_1 (x1.Data).length c3_1] := by have := congrArg List.toArray hcs1; simpa [Value.cells] using this
  clear hA0 hval0
  refine (walk a0 len0 cap0 x0 x1 A3_1 c3_1 W c0 l0 o0 k1 o1).mono fun e W' ⟨he, bel⟩ => ?_
  subst he
  exact ⟨_, rfl, _, _, _, [], _, [], hW', trodAll_mk1 (shut_bool Try.underlying4 _), (trodAll_cons_mk (Below.trod laidOut (by kernel_rfl) (of_decide_eq_true (by kernel_rfl)) kk0 bel lt0) (trodAll_cons_mk (Below.trod laidOut (by kernel_rfl) (of_decide_eq_true (by kernel_rfl)) kk1 bel lt1) trodAll_mk0)), rfl, bel.frame _, fun h => by cases h⟩

theorem over : Rows.stationDeafRow.holds Try.pinned (OpenSpec.ofChange Rows.stationDeafSpec) :=
  OpenClaim.holds_of_wide 4 Try.f4 rfl rfl rfl rfl rfl rfl rfl ⟨rfl, rfl, rfl, rfl, rfl⟩ rfl rfl rfl rfl rfl (by kernel_rfl) Try.func4 (by kernel_rfl)
    (of_decide_eq_true (by kernel_rfl)) (by unfold Func.isWrapper; first | (rw [if_pos (by decide +kernel)]; kernel_rfl) | (rw [if_neg (by decide +kernel)]; exact ⟨rfl, rfl⟩))
    (fun os started H enc _ => lifted os started H enc)
theorem proved : Rows.StationDeafSaid := over
#print axioms proved
end Go.Proofs.Ytpepgblmcjgbgaa.stationDeaf
namespace Go.Proofs.Ytpepgblmcjgbgaa
/-- The row, under a short name, for the claim. -/
theorem stationDeaf_holds : Rows.StationDeafSaid := stationDeaf.proved
end Go.Proofs.Ytpepgblmcjgbgaa
