/- The secondary station: the program's functions, each walked once. Conditions: bytes are bytes. -/
import Derived.Test.YtpepgblmcjgbgaaBase
import Derived.Test.YtpepgblmcjgbgaaKinds
import Derived.RegionTactic
import Derived.BigRegion
namespace Go.Proofs.Ytpepgblmcjgbgaa
open Go.RowKit Go.Proofs.YtpepgblmcjgbgaaW.PrintWords
set_option linter.unusedVariables false

/-- A station: its addresses, was the link reset, the FCB that is expected. -/
structure St where
  own : Int
  master : Int
  ready : Bool
  expect : Bool
/-- What a frame does: the station behind it, the answer's code, is it handed up? -/
structure Tk where
  st : St
  ans : Option Int
  up : Bool
def deafB (s : St) (ctl dest src : Int) : Bool :=
  (dest != s.own) || (src != s.master) || (bits .and .i64 ctl 128 == 0) || (bits .and .i64 ctl 64 == 0) || ((bits .and .i64 ctl 16 != 0) != (bits .and .i64 ctl 15 == 2 || bits .and .i64 ctl 15 == 3))
def tk (s : St) (ctl dest src : Int) : Tk :=
  if deafB s ctl dest src then ⟨s, none, false⟩
  else if bits .and .i64 ctl 15 == 0 then ⟨{ s with ready := true, expect := true }, some 0, false⟩
  else if bits .and .i64 ctl 15 == 2 || bits .and .i64 ctl 15 == 3 then
    if !s.ready then ⟨s, some 1, false⟩
    else if (bits .and .i64 ctl 32 != 0) != s.expect then ⟨s, some 0, false⟩
    else ⟨{ s with expect := !s.expect }, some 0, bits .and .i64 ctl 15 == 3⟩
  else if bits .and .i64 ctl 15 == 4 then ⟨s, none, true⟩
  else if bits .and .i64 ctl 15 == 9 then ⟨s, some 11, false⟩
  else ⟨s, some 15, false⟩
def frameV (s : St) : Option Int → Value
  | none => .agg #[.int .i64 0, .int .i64 0, .int .i64 0, .slice none 0 0]
  | some c => .agg #[.int .i64 c, .int .i64 s.master, .int .i64 s.own, .slice none 0 0]
def dat (up : Bool) (l : List Int) : List Int := if up then l else []
def IsSt (B : Nat) (w : World) (g : Nat) (s : St) : Prop :=
  w.heap[g]? = some (.cells #[.int .i64 s.own, .int .i64 s.master, .bool s.ready, .bool s.expect] 56 (0, 0)) ∧ B ≤ g
def NewSt (B : Nat) (s : St) (w : World) (e : Ending) (w' : World) : Prop := ∃ g, e = .returned (.pointer (some ⟨g, 0, none⟩)) ∧ IsSt B w' g s ∧ w.heap.size ≤ g ∧ Below w.heap.size w w'
theorem IsSt.below {B : Nat} {w w1 : World} {g : Nat} {s : St} (h : IsSt B w g s) (hb : Below w.heap.size w w1) : IsSt B w1 g s := ⟨(hb.block g (blk_lt h.1)).trans h.1, h.2⟩
theorem IsSt.drewN {B : Nat} {w : World} {g : Nat} {s : St} (h : IsSt B w g s) (m : Nat) : IsSt B (w.drewN m) g s := h
theorem IsSt.lt {B : Nat} {w : World} {g : Nat} {s : St} (h : IsSt B w g s) : g < w.heap.size := blk_lt h.1
theorem IsSt.other {B : Nat} {w w1 : World} {g g1 : Nat} {s : St} (h : IsSt B w g s) (hc : Chg g1 w w1) (hne : g ≠ g1) : IsSt B w1 g s := ⟨(hc.block g (blk_lt h.1) hne).trans h.1, h.2⟩

set_option maxHeartbeats 1000000 in
set_option maxRecDepth 100000 in
theorem new_any (B : Nat) (o m : Int) (w : World) (hB : B ≤ w.heap.size) :
    Calls Try.prog 10 #[.int .i64 o, .int .i64 m] w (NewSt B ⟨o, m, false, false⟩ w) := by
  go_enter Try.func10, Try.ntmps10
  go_wp2
  go_ret
  exact ⟨_, rfl, ⟨heap_alloc_new w _, hB⟩, Nat.le_refl _, below_alloc (Below.refl _ _) _⟩

def AnsPost (s : St) (c : Int) (w : World) (e : Ending) (w' : World) : Prop := e = .returned (.agg #[.int .i64 c, .int .i64 s.master, .int .i64 s.own, .slice none 0 0]) ∧ Below w.heap.size w w'
set_option maxHeartbeats 1000000 in
set_option maxRecDepth 100000 in
theorem answer_any (B g : Nat) (s : St) (c : Int) (w : World) (hs : IsSt B w g s) :
    Calls Try.prog 24 #[.pointer (some ⟨g, 0, none⟩), .int .i64 c] w (AnsPost s c w) := by
  have k0 : ∀ o, (w.alloc o).cell? ⟨g, 0, none⟩ = some (.int .i64 s.own) := fun o => pw_cell_below (below_alloc (Below.refl _ _) _) (blk_cell hs.1 0)
  have k1 : ∀ o, (w.alloc o).cell? ⟨g, 1, none⟩ = some (.int .i64 s.master) := fun o => pw_cell_below (below_alloc (Below.refl _ _) _) (blk_cell hs.1 1)
  clear hs
  go_enter Try.func24, Try.ntmps24
  go_wp2
  go_region_held3 (fun w' => w'.cell? ⟨g, 0, none⟩ = some (.int .i64 s.own) ∧ w'.cell? ⟨g, 1, none⟩ = some (.int .i64 s.master)) (first | exact ⟨k0 _, k1 _⟩ | go_keep) (fail)
  go_wp2
  refine bodyPost_ret (v := .agg #[.int .i64 c, .int .i64 s.master, .int .i64 s.own, .slice none 0 0]) (results_cell_row (by rfl) _ _ w.heap.size 29 _ (0, 0) _ rfl (heap_alloc_new w _) Try.underlying29 rfl (by kernel_rfl)) rfl ⟨rfl, below_drew (below_alloc (Below.refl _ _) _)⟩

theorem to_any (c : Int) (v : Value) (A : Option Addr) (n k : Nat) (w : World) (hv : v = .slice A n k) :
    Calls Try.prog 12 #[.int .i64 c, v] w fun e w' => e = .returned (.agg #[.int .i64 c, .int .i64 1, .int .i64 2, v]) ∧ Below w.heap.size w w' := by
  subst hv
  go_enter Try.func12, Try.ntmps12
  go_wp2
  refine bodyPost_ret (v := .agg #[.int .i64 c, .int .i64 1, .int .i64 2, .slice A n k]) (results_cell_row (by rfl) _ _ w.heap.size 29 _ (0, 0) _ rfl (heap_alloc_new w _) Try.underlying29 rfl (by kernel_rfl)) rfl ⟨rfl, below_alloc (Below.refl _ _) _⟩

theorem state_any (B g : Nat) (s : St) (w : World) (hs : IsSt B w g s) :
    Calls Try.prog 15 #[.pointer (some ⟨g, 0, none⟩)] w fun e w' => e = .returned (.tuple #[.bool s.ready, .bool (s.ready && s.expect)]) ∧ ∃ m, w' = w.drewN m := by
  have c2 : w.cell? ⟨g, 2, none⟩ = some (.bool s.ready) := blk_cell hs.1 2
  have c3 : w.cell? ⟨g, 3, none⟩ = some (.bool s.expect) := blk_cell hs.1 3
  clear hs
  obtain ⟨r, hr⟩ : ∃ r, s.ready = r := ⟨_, rfl⟩
  rw [hr] at c2 ⊢
  clear hr
  cases r
  all_goals
    go_enter Try.func15, Try.ntmps15
    go_wp2
    go_quiet (fail)
    go_wp2
    go_ret2
    exact ⟨rfl, _, rfl⟩

theorem reset_any (B g : Nat) (s : St) (w : World) (hs : IsSt B w g s) :
    Calls Try.prog 19 #[.pointer (some ⟨g, 0, none⟩)] w fun e w' => e = .returned (.tuple #[]) ∧ IsSt B w' g { s with ready := false, expect := false } ∧ Chg g w w' := by
  have c2 : w.cell? ⟨g, 2, none⟩ = some (.bool s.ready) := blk_cell hs.1 2
  have c3 : w.cell? ⟨g, 3, none⟩ = some (.bool s.expect) := blk_cell hs.1 3
  have f2 := blk_frozen hs.1 2
  have f3 := blk_frozen hs.1 3
  have HG := Aside0.mk hs
  clear hs
  go_enter Try.func19, Try.ntmps19
  go_wp2
  go_end0
  refine ⟨rfl, ⟨?_, HG.out.2⟩, ((Chg.refl g w).set 2 _).set 3 _⟩
  have h := blk_set (blk_set HG.out.1 2 (.bool false)) 3 (.bool false)
  simpa using h

def CopySt (B : Nat) (s : St) (w : World) (e : Ending) (w' : World) : Prop := ∃ g, e = .returned (.pointer (some ⟨g, 0, none⟩)) ∧ IsSt B w' g s ∧ w.heap.size ≤ g ∧ Below w.heap.size w w'
set_option maxHeartbeats 1000000 in
set_option maxRecDepth 100000 in
theorem copySt_any (B g : Nat) (s : St) (w : World) (hs : IsSt B w g s) (hB : B ≤ w.heap.size) :
    Calls Try.prog 18 #[.pointer (some ⟨g, 0, none⟩)] w (CopySt B s w) := by
  have HG := Aside0.mk hs
  have hst := run_storeAt_new (P := Try.prog) w 56 #[.int .i64 0, .int .i64 0, .bool false, .bool false] #[.int .i64 s.own, .int .i64 s.master, .bool s.ready, .bool s.expect] (by kernel_rfl) rfl (by simp [Value.oneCell'])
  clear hs
  go_enter Try.func18, Try.ntmps18
  go_wp2_with ((with_reducible refine gate_dst (N := 6) rfl ?_); refine wpList_load_row rfl 56 (.tmp 5) rfl g rfl 56 _ (0, 0) _ HG.out.1 Try.underlying56 rfl (by kernel_rfl) ?_)
  go_ret
  exact ⟨_, rfl, ⟨heap_alloc_new w _, hB⟩, Nat.le_refl _, below_alloc (Below.refl _ _) _⟩

/-! Take. -/
def TakePost (B g : Nat) (s : St) (r : Tk) (l : List Int) (w : World) (e : Ending) (w' : World) : Prop :=
  ∃ v, e = .returned (.tuple #[frameV s r.ans, .bool r.ans.isSome, v, .bool r.up]) ∧ w'.ownsRow w.heap.size 5 1 v (dat r.up l).length (nums .u8 (dat r.up l)) ∧ IsSt B w' g r.st ∧ Chg g w w'

end Go.Proofs.Ytpepgblmcjgbgaa
