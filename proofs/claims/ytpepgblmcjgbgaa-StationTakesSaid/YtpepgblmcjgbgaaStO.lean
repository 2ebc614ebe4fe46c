/- The document's station: how it takes a frame. Conditions: the arguments read as data. -/
import Derived.Test.YtpepgblmcjgbgaaStI
import Derived.Test.YtpepgblmcjgbgaaStH
namespace Go.Proofs.Ytpepgblmcjgbgaa
open Go.RowKit Go.Proofs.YtpepgblmcjgbgaaW.PrintWords
set_option linter.unusedVariables false
/-- The document's station. -/
def IsRf (B : Nat) (w : World) (g : Nat) (s : St) : Prop :=
  w.heap[g]? = some (.cells #[.int .i64 s.own, .int .i64 s.master, .bool s.ready, .bool (s.ready && s.expect)] 46 (0, 0)) ∧ B ≤ g
set_option maxRecDepth 100000 in
theorem plain_any (c d r : Int) (A : Option Addr) (n k : Nat) (w : World) :
    Calls Try.prog 21 #[.agg #[.int .i64 c, .int .i64 d, .int .i64 r, .slice A n k]] w (fun e w' => e = .returned (.agg #[.int .i64 c, .int .i64 d, .int .i64 r, .slice A n k]) ∧ Below w.heap.size w w') := by
  go_enter Try.func21, Try.ntmps21
  go_wp2
  refine bodyPost_ret (v := .agg #[.int .i64 c, .int .i64 d, .int .i64 r, .slice A n k]) (results_cell_row (by rfl) _ _ (w.heap.size + 1) 48 _ (0, 0) _ rfl (heap_two w _ _) Try.underlying48 rfl (by kernel_rfl)) rfl ⟨rfl, below_alloc (below_alloc (Below.refl _ _) _) _⟩
set_option maxHeartbeats 1000000 in
set_option maxRecDepth 100000 in
theorem rsame_any (c d r c' d' r' : Int) (A A' : Option Addr) (n k n' k' : Nat) (l l' : List Int) (w : World) (hr : ReadsInt w .u8 A n l) (hr' : ReadsInt w .u8 A' n' l') (hb : Bytes l) (hb' : Bytes l') :
    Calls Try.prog 22 #[.agg #[.int .i64 c, .int .i64 d, .int .i64 r, .slice A n k], .agg #[.int .i64 c, .int .i64 d, .int .i64 r, .slice A' n' k']] w (fun e w' => e = .returned (.bool (decide (l = l'))) ∧ Below w.heap.size w w') := by
  go_enter Try.func22, Try.ntmps22
  go_wp2_with fail
  (with_reducible refine (bytes_any A A' n n' k k' l l' _ (hr.below (below_alloc (below_alloc (Below.refl _ _) _) _)) (hr'.below (below_alloc (below_alloc (Below.refl _ _) _) _)) hb hb').mono ?_)
  rintro _ w1 ⟨rfl, rfl⟩
  go_wp2
  go_ret
  exact ⟨rfl, below_alloc (below_alloc (Below.refl _ _) _) _⟩
def RTakePost (B g : Nat) (s : St) (r : Tk) (l : List Int) (w : World) (e : Ending) (w' : World) : Prop :=
  ∃ v, e = .returned (.tuple #[frameV s r.ans, .bool r.ans.isSome, v, .bool r.up]) ∧ w'.ownsRow w.heap.size 5 1 v (dat r.up l).length (nums .u8 (dat r.up l)) ∧ IsRf B w' g r.st ∧ Chg g w w'
theorem IsRf.below {B : Nat} {w w1 : World} {g : Nat} {s : St} (h : IsRf B w g s) (hb : Below w.heap.size w w1) : IsRf B w1 g s := ⟨(hb.block g (blk_lt h.1)).trans h.1, h.2⟩
theorem IsRf.lt {B : Nat} {w : World} {g : Nat} {s : St} (h : IsRf B w g s) : g < w.heap.size := blk_lt h.1
theorem IsRf.other {B : Nat} {w w1 : World} {g g1 : Nat} {s : St} (h : IsRf B w g s) (hc : Chg g1 w w1) (hne : g ≠ g1) : IsRf B w1 g s := ⟨(hc.block g (blk_lt h.1) hne).trans h.1, h.2⟩
set_option maxHeartbeats 2000000 in
set_option maxRecDepth 100000 in
theorem rtake_deaf1 (B g : Nat) (s : St) (ctl dest src : Int) (A : Option Addr) (n c : Nat) (l : List Int) (w : World) (hs : IsRf B w g s) (ht : Aside0 (tk s ctl dest src = ⟨s, none, false⟩)) (e1 : (dest != s.own) = true) :
    Calls Try.prog 20 #[.pointer (some ⟨g, 0, none⟩), .agg #[.int .i64 ctl, .int .i64 dest, .int .i64 src, .slice A n c]] w (RTakePost B g s (tk s ctl dest src) l w) := by
  have k0 : ∀ o1 o2, ((w.alloc o1).alloc o2).cell? ⟨g, 0, none⟩ = some (.int .i64 s.own) := fun o1 o2 => pw_cell_below (below_alloc (below_alloc (Below.refl _ _) o1) o2) (blk_cell hs.1 0)
  have k1 : ∀ o1 o2, ((w.alloc o1).alloc o2).cell? ⟨g, 1, none⟩ = some (.int .i64 s.master) := fun o1 o2 => pw_cell_below (below_alloc (below_alloc (Below.refl _ _) o1) o2) (blk_cell hs.1 1)
  have k2 : ∀ o1 o2, ((w.alloc o1).alloc o2).cell? ⟨g, 2, none⟩ = some (.bool s.ready) := fun o1 o2 => pw_cell_below (below_alloc (below_alloc (Below.refl _ _) o1) o2) (blk_cell hs.1 2)
  have k3 : ∀ o1 o2, ((w.alloc o1).alloc o2).cell? ⟨g, 3, none⟩ = some (.bool (s.ready && s.expect)) := fun o1 o2 => pw_cell_below (below_alloc (below_alloc (Below.refl _ _) o1) o2) (blk_cell hs.1 3)
  have HS := Aside0.mk hs
  clear hs
  go_enter Try.func20, Try.ntmps20
  go_wp2
  go_quiet (fail)
  go_wp2
  refine bodyPost_ret (results_cttt (p := 4) (u := 5) (v := 6) (x := 7) rfl _ _ (w.heap.size + 1) 48 #[.int .i64 0, .int .i64 0, .int .i64 0, .slice none 0 0] (0, 0) _ rfl (heap_fourN w _ _ _ _ _ _ _ _ _ _ _) Try.underlying48 rfl (by kernel_rfl)) rfl ⟨.slice none 0 0, by rw [ht.out]; rfl, ?_, ?_, ?_⟩
  · rw [ht.out]; exact own_nil _ _ _ _
  · rw [ht.out]; exact HS.out.below (below_fourN w _ _ _ _ _ _ _)
  · exact chg_fourN g w _ _ _ _ _ _ _
set_option maxHeartbeats 2000000 in
set_option maxRecDepth 100000 in
theorem rtake_deaf2 (B g : Nat) (s : St) (ctl dest src : Int) (A : Option Addr) (n c : Nat) (l : List Int) (w : World) (hs : IsRf B w g s) (ht : Aside0 (tk s ctl dest src = ⟨s, none, false⟩)) (e1 : (dest != s.own) = false) (e2 : (src != s.master) = true) :
    Calls Try.prog 20 #[.pointer (some ⟨g, 0, none⟩), .agg #[.int .i64 ctl, .int .i64 dest, .int .i64 src, .slice A n c]] w (RTakePost B g s (tk s ctl dest src) l w) := by
  have k0 : ∀ o1 o2, ((w.alloc o1).alloc o2).cell? ⟨g, 0, none⟩ = some (.int .i64 s.own) := fun o1 o2 => pw_cell_below (below_alloc (below_alloc (Below.refl _ _) o1) o2) (blk_cell hs.1 0)
  have k1 : ∀ o1 o2, ((w.alloc o1).alloc o2).cell? ⟨g, 1, none⟩ = some (.int .i64 s.master) := fun o1 o2 => pw_cell_below (below_alloc (below_alloc (Below.refl _ _) o1) o2) (blk_cell hs.1 1)
  have k2 : ∀ o1 o2, ((w.alloc o1).alloc o2).cell? ⟨g, 2, none⟩ = some (.bool s.ready) := fun o1 o2 => pw_cell_below (below_alloc (below_alloc (Below.refl _ _) o1) o2) (blk_cell hs.1 2)
  have k3 : ∀ o1 o2, ((w.alloc o1).alloc o2).cell? ⟨g, 3, none⟩ = some (.bool (s.ready && s.expect)) := fun o1 o2 => pw_cell_below (below_alloc (below_alloc (Below.refl _ _) o1) o2) (blk_cell hs.1 3)
  have HS := Aside0.mk hs
  clear hs
  go_enter Try.func20, Try.ntmps20
  go_wp2
  go_quiet (fail)
  go_wp2
  refine bodyPost_ret (results_cttt (p := 4) (u := 5) (v := 6) (x := 7) rfl _ _ (w.heap.size + 1) 48 #[.int .i64 0, .int .i64 0, .int .i64 0, .slice none 0 0] (0, 0) _ rfl (heap_fourN w _ _ _ _ _ _ _ _ _ _ _) Try.underlying48 rfl (by kernel_rfl)) rfl ⟨.slice none 0 0, by rw [ht.out]; rfl, ?_, ?_, ?_⟩
  · rw [ht.out]; exact own_nil _ _ _ _
  · rw [ht.out]; exact HS.out.below (below_fourN w _ _ _ _ _ _ _)
  · exact chg_fourN g w _ _ _ _ _ _ _
set_option maxHeartbeats 2000000 in
set_option maxRecDepth 100000 in
theorem rtake_deaf3 (B g : Nat) (s : St) (ctl dest src : Int) (A : Option Addr) (n c : Nat) (l : List Int) (w : World) (hs : IsRf B w g s) (ht : Aside0 (tk s ctl dest src = ⟨s, none, false⟩)) (e1 : (dest != s.own) = false) (e2 : (src != s.master) = false) (e3 : (bits .and .i64 ctl 192 != 192) = true) :
    Calls Try.prog 20 #[.pointer (some ⟨g, 0, none⟩), .agg #[.int .i64 ctl, .int .i64 dest, .int .i64 src, .slice A n c]] w (RTakePost B g s (tk s ctl dest src) l w) := by
  have k0 : ∀ o1 o2, ((w.alloc o1).alloc o2).cell? ⟨g, 0, none⟩ = some (.int .i64 s.own) := fun o1 o2 => pw_cell_below (below_alloc (below_alloc (Below.refl _ _) o1) o2) (blk_cell hs.1 0)
  have k1 : ∀ o1 o2, ((w.alloc o1).alloc o2).cell? ⟨g, 1, none⟩ = some (.int .i64 s.master) := fun o1 o2 => pw_cell_below (below_alloc (below_alloc (Below.refl _ _) o1) o2) (blk_cell hs.1 1)
  have k2 : ∀ o1 o2, ((w.alloc o1).alloc o2).cell? ⟨g, 2, none⟩ = some (.bool s.ready) := fun o1 o2 => pw_cell_below (below_alloc (below_alloc (Below.refl _ _) o1) o2) (blk_cell hs.1 2)
  have k3 : ∀ o1 o2, ((w.alloc o1).alloc o2).cell? ⟨g, 3, none⟩ = some (.bool (s.ready && s.expect)) := fun o1 o2 => pw_cell_below (below_alloc (below_alloc (Below.refl _ _) o1) o2) (blk_cell hs.1 3)
  have HS := Aside0.mk hs
  clear hs
  go_enter Try.func20, Try.ntmps20
  go_wp2
  go_quiet (fail)
  go_wp2
  refine bodyPost_ret (results_cttt (p := 4) (u := 5) (v := 6) (x := 7) rfl _ _ (w.heap.size + 1) 48 #[.int .i64 0, .int .i64 0, .int .i64 0, .slice none 0 0] (0, 0) _ rfl (heap_fourN w _ _ _ _ _ _ _ _ _ _ _) Try.underlying48 rfl (by kernel_rfl)) rfl ⟨.slice none 0 0, by rw [ht.out]; rfl, ?_, ?_, ?_⟩
  · rw [ht.out]; exact own_nil _ _ _ _
  · rw [ht.out]; exact HS.out.below (below_fourN w _ _ _ _ _ _ _)
  · exact chg_fourN g w _ _ _ _ _ _ _
set_option maxHeartbeats 4000000 in
set_option maxRecDepth 100000 in
theorem rtake_deaf4 (B g : Nat) (s : St) (ctl dest src : Int) (A : Option Addr) (n c : Nat) (l : List Int) (w : World) (hs : IsRf B w g s) (ht : Aside0 (tk s ctl dest src = ⟨s, none, false⟩)) (e1 : (dest != s.own) = false) (e2 : (src != s.master) = false) (e3 : (bits .and .i64 ctl 192 != 192) = false) (b5 f2 f3 : Bool) (e5 : (bits .and .i64 ctl 16 != 0) = b5) (e6 : (bits .and .i64 ctl 15 == 2) = f2) (e7 : (bits .and .i64 ctl 15 == 3) = f3) (hd : (b5 != (f2 || f3)) = true) :
    Calls Try.prog 20 #[.pointer (some ⟨g, 0, none⟩), .agg #[.int .i64 ctl, .int .i64 dest, .int .i64 src, .slice A n c]] w (RTakePost B g s (tk s ctl dest src) l w) := by
  have HD := Aside0.mk hd
  clear hd
  cases f2 <;> cases f3 <;> cases b5
  case false.false.false => exact absurd HD.out (by decide)
  case false.true.true => exact absurd HD.out (by decide)
  case true.false.true => exact absurd HD.out (by decide)
  case true.true.true => exact absurd HD.out (by decide)
  all_goals
    have k0 : ∀ o1 o2, ((w.alloc o1).alloc o2).cell? ⟨g, 0, none⟩ = some (.int .i64 s.own) := fun o1 o2 => pw_cell_below (below_alloc (below_alloc (Below.refl _ _) o1) o2) (blk_cell hs.1 0)
    have k1 : ∀ o1 o2, ((w.alloc o1).alloc o2).cell? ⟨g, 1, none⟩ = some (.int .i64 s.master) := fun o1 o2 => pw_cell_below (below_alloc (below_alloc (Below.refl _ _) o1) o2) (blk_cell hs.1 1)
    have k2 : ∀ o1 o2, ((w.alloc o1).alloc o2).cell? ⟨g, 2, none⟩ = some (.bool s.ready) := fun o1 o2 => pw_cell_below (below_alloc (below_alloc (Below.refl _ _) o1) o2) (blk_cell hs.1 2)
    have k3 : ∀ o1 o2, ((w.alloc o1).alloc o2).cell? ⟨g, 3, none⟩ = some (.bool (s.ready && s.expect)) := fun o1 o2 => pw_cell_below (below_alloc (below_alloc (Below.refl _ _) o1) o2) (blk_cell hs.1 3)
    have HS := Aside0.mk hs
    clear hs
    go_enter Try.func20, Try.ntmps20
    go_wp2
    go_quiet (fail)
    go_wp2
    refine bodyPost_ret (results_cttt (p := 4) (u := 5) (v := 6) (x := 7) rfl _ _ (w.heap.size + 1) 48 #[.int .i64 0, .int .i64 0, .int .i64 0, .slice none 0 0] (0, 0) _ rfl (heap_fourN w _ _ _ _ _ _ _ _ _ _ _) Try.underlying48 rfl (by kernel_rfl)) rfl ⟨.slice none 0 0, by rw [ht.out]; rfl, ?_, ?_, ?_⟩
    · rw [ht.out]; exact own_nil _ _ _ _
    · rw [ht.out]; exact HS.out.below (below_fourN w _ _ _ _ _ _ _)
    · exact chg_fourN g w _ _ _ _ _ _ _
theorem rbase (B g : Nat) (s : St) (w : World) (hs : IsRf B w g s) (F : Obj) (x0 x1 x2 x3 a0 a1 a2 a3 : Value) (m : Nat) :
    ∀ W, ((((w.alloc F).alloc (.cells #[x0, x1, x2, x3] 48 (0, 0))).drewN m).alloc (.cells #[a0, a1, a2, a3] 48 (0, 0))) = W →
      W.heap[w.heap.size + 1]? = some (.cells #[x0, x1, x2, x3] 48 (0, 0)) ∧ W.heap[w.heap.size + 1 + 1]? = some (.cells #[a0, a1, a2, a3] 48 (0, 0)) ∧ IsRf B W g s ∧ Chg g w W ∧ W.heap[w.heap.size]? = some F := by
  rintro W rfl
  refine ⟨blk_alloc (heap_twoN w _ _ _) _, ?_, hs.below (below_alloc (pw_below_drewN (below_alloc (below_alloc (Below.refl _ _) _) _) m) _), (((((Chg.refl g w).alloc _).alloc _).drewN _).alloc _), blk_alloc (show ((((w.alloc F).alloc (.cells #[x0, x1, x2, x3] 48 (0, 0)))).drewN m).heap[w.heap.size]? = some F from blk_alloc (heap_alloc_new w F) _) _⟩
  have h := heap_alloc_new (((w.alloc F).alloc (.cells #[x0, x1, x2, x3] 48 (0, 0))).drewN m) (.cells #[a0, a1, a2, a3] 48 (0, 0))
  simpa using h
/-- The station's cells set anew. -/
theorem IsRf.flags {B : Nat} {w : World} {g : Nat} {s : St} (h : IsRf B w g s) (a b : Bool) (hab : b = (a && b)) : IsRf B ((w.setCell ⟨g, 2, none⟩ (.bool a)).setCell ⟨g, 3, none⟩ (.bool b)) g { s with ready := a, expect := b } := by
  have h' := blk_set (blk_set h.1 2 (.bool a)) 3 (.bool b)
  refine ⟨?_, h.2⟩
  rw [show (({ s with ready := a, expect := b } : St).ready && ({ s with ready := a, expect := b } : St).expect) = b from hab.symm]
  simpa using h'
theorem IsRf.flag {B : Nat} {w : World} {g : Nat} {s : St} (h : IsRf B w g s) (hr : s.ready = true) (b : Bool) : IsRf B (w.setCell ⟨g, 3, none⟩ (.bool b)) g { s with expect := b } := by
  have h' := blk_set h.1 3 (.bool b)
  refine ⟨?_, h.2⟩
  rw [show (({ s with expect := b } : St).ready && ({ s with expect := b } : St).expect) = b from by show (s.ready && b) = b; rw [hr]; rfl]
  simpa using h'
theorem IsRf.drewN {B : Nat} {w : World} {g : Nat} {s : St} (h : IsRf B w g s) (m : Nat) : IsRf B (w.drewN m) g s := h
theorem heap_drewN (w : World) (k m : Nat) : (w.drewN m).heap[k]? = w.heap[k]? := rfl
theorem IsRf.four {B : Nat} {w : World} {g k : Nat} {s : St} (h : IsRf B w g s) (hk : g ≠ k) (y0 y1 y2 y3 : Value) : IsRf B ((((w.setCell ⟨k, 0, none⟩ y0).setCell ⟨k, 1, none⟩ y1).setCell ⟨k, 2, none⟩ y2).setCell ⟨k, 3, none⟩ y3) g s := ⟨keep_four h.1 hk _ _ _ _, h.2⟩
theorem IsRf.set {B : Nat} {w : World} {g k i : Nat} {s : St} (h : IsRf B w g s) (hk : g ≠ k) (y : Value) : IsRf B (w.setCell ⟨k, i, none⟩ y) g s := ⟨(Below.heap_setCell _ _ _ _ hk).trans h.1, h.2⟩
set_option maxHeartbeats 2000000 in
set_option maxRecDepth 100000 in
theorem rtake_other (B g : Nat) (s : St) (ctl dest src : Int) (A : Option Addr) (n c : Nat) (l : List Int) (w : World) (hs : IsRf B w g s) (e1 : (dest != s.own) = false) (e2 : (src != s.master) = false) (e3 : (bits .and .i64 ctl 192 != 192) = false) (e5 : (bits .and .i64 ctl 16 != 0) = false) (e6 : (bits .and .i64 ctl 15 == 2) = false) (e7 : (bits .and .i64 ctl 15 == 3) = false) (e8 : (bits .and .i64 ctl 15 == 0) = false) (e9 : (bits .and .i64 ctl 15 == 4) = false) (e10 : (bits .and .i64 ctl 15 == 9) = false) (ht : Aside0 (tk s ctl dest src = ⟨s, some 15, false⟩)) :
    Calls Try.prog 20 #[.pointer (some ⟨g, 0, none⟩), .agg #[.int .i64 ctl, .int .i64 dest, .int .i64 src, .slice A n c]] w (RTakePost B g s (tk s ctl dest src) l w) := by
  have k0 : ∀ o1 o2, ((w.alloc o1).alloc o2).cell? ⟨g, 0, none⟩ = some (.int .i64 s.own) := fun o1 o2 => pw_cell_below (below_alloc (below_alloc (Below.refl _ _) o1) o2) (blk_cell hs.1 0)
  have k1 : ∀ o1 o2, ((w.alloc o1).alloc o2).cell? ⟨g, 1, none⟩ = some (.int .i64 s.master) := fun o1 o2 => pw_cell_below (below_alloc (below_alloc (Below.refl _ _) o1) o2) (blk_cell hs.1 1)
  have k2 : ∀ o1 o2, ((w.alloc o1).alloc o2).cell? ⟨g, 2, none⟩ = some (.bool s.ready) := fun o1 o2 => pw_cell_below (below_alloc (below_alloc (Below.refl _ _) o1) o2) (blk_cell hs.1 2)
  have k3 : ∀ o1 o2, ((w.alloc o1).alloc o2).cell? ⟨g, 3, none⟩ = some (.bool (s.ready && s.expect)) := fun o1 o2 => pw_cell_below (below_alloc (below_alloc (Below.refl _ _) o1) o2) (blk_cell hs.1 3)
  have HS := Aside0.mk hs
  clear hs
  go_enter Try.func20, Try.ntmps20
  go_wp2
  go_quiet (fail)
  go_wp2
  have q0 : ∀ o1 o2 m, (((w.alloc o1).alloc o2).drewN m).cell? ⟨g, 0, none⟩ = some (.int .i64 s.own) := fun o1 o2 m => k0 o1 o2
  have q1 : ∀ o1 o2 m, (((w.alloc o1).alloc o2).drewN m).cell? ⟨g, 1, none⟩ = some (.int .i64 s.master) := fun o1 o2 m => k1 o1 o2
  go_region_held3 (fun w' => w'.cell? ⟨g, 0, none⟩ = some (.int .i64 s.own) ∧ w'.cell? ⟨g, 1, none⟩ = some (.int .i64 s.master)) (first | exact ⟨q0 _ _ _, q1 _ _ _⟩ | exact ⟨k0 _ _, k1 _ _⟩ | go_keep) (fail)
  generalize hW : (((w.alloc _).alloc _).drewN _).alloc _ = W
  obtain ⟨hz, ha, hg, hc, hf⟩ := rbase B g s w HS.out _ _ _ _ _ _ _ _ _ _ W hW
  clear hW k0 k1 q0 q1 k2 k3
  have hlg := HS.out.lt
  have z0 := blk_cell hz 0
  have z1 := blk_cell hz 1
  have z2 := blk_cell hz 2
  have z3 := blk_cell hz 3
  have zf0 := blk_frozen hz 0
  have zf1 := blk_frozen hz 1
  have zf2 := blk_frozen hz 2
  have zf3 := blk_frozen hz 3
  have a0 := blk_cell ha 0
  have a1 := blk_cell ha 1
  have a2 := blk_cell ha 2
  have a3 := blk_cell ha 3
  have af0 := blk_frozen ha 0
  have g2 := blk_cell hg.1 2
  have g3 := blk_cell hg.1 3
  have gf2 := blk_frozen hg.1 2
  have gf3 := blk_frozen hg.1 3
  have d0 := blk_cell hf 0
  have d3 := blk_cell hf 3
  simp only [List.getElem?_toArray, List.getElem?_cons_zero, List.getElem?_cons_succ] at z0 z1 z2 z3 a0 a1 a2 a3 g2 g3 d0 d3
  have HF := Aside0.mk hf
  have HZ := Aside0.mk hz
  have HA := Aside0.mk ha
  have HG := Aside0.mk hg
  have HC := Aside0.mk hc
  clear hz ha hg hc hf
  go_wp2
  refine bodyPost_ret (results_cttt (p := 4) (u := 5) (v := 6) (x := 7) rfl _ _ (w.heap.size + 1) 48 #[.int .i64 15, .int .i64 s.master, .int .i64 s.own, .slice none 0 0] (0, 0) _ rfl (set_four (HZ.out) _ _ _ _) Try.underlying48 rfl (by kernel_rfl)) rfl ⟨.slice none 0 0, by rw [ht.out]; rfl, ?_, ?_, ?_⟩
  · rw [ht.out]; exact own_nil _ _ _ _
  · rw [ht.out]; exact (HG.out).four (by omega) _ _ _ _
  · exact (HC.out).four (Nat.le_succ _) _ _ _ _
set_option maxHeartbeats 2000000 in
set_option maxRecDepth 100000 in
theorem rtake_status (B g : Nat) (s : St) (ctl dest src : Int) (A : Option Addr) (n c : Nat) (l : List Int) (w : World) (hs : IsRf B w g s) (e1 : (dest != s.own) = false) (e2 : (src != s.master) = false) (e3 : (bits .and .i64 ctl 192 != 192) = false) (e5 : (bits .and .i64 ctl 16 != 0) = false) (e6 : (bits .and .i64 ctl 15 == 2) = false) (e7 : (bits .and .i64 ctl 15 == 3) = false) (e8 : (bits .and .i64 ctl 15 == 0) = false) (e9 : (bits .and .i64 ctl 15 == 4) = false) (e10 : (bits .and .i64 ctl 15 == 9) = true) (ht : Aside0 (tk s ctl dest src = ⟨s, some 11, false⟩)) :
    Calls Try.prog 20 #[.pointer (some ⟨g, 0, none⟩), .agg #[.int .i64 ctl, .int .i64 dest, .int .i64 src, .slice A n c]] w (RTakePost B g s (tk s ctl dest src) l w) := by
  have k0 : ∀ o1 o2, ((w.alloc o1).alloc o2).cell? ⟨g, 0, none⟩ = some (.int .i64 s.own) := fun o1 o2 => pw_cell_below (below_alloc (below_alloc (Below.refl _ _) o1) o2) (blk_cell hs.1 0)
  have k1 : ∀ o1 o2, ((w.alloc o1).alloc o2).cell? ⟨g, 1, none⟩ = some (.int .i64 s.master) := fun o1 o2 => pw_cell_below (below_alloc (below_alloc (Below.refl _ _) o1) o2) (blk_cell hs.1 1)
  have k2 : ∀ o1 o2, ((w.alloc o1).alloc o2).cell? ⟨g, 2, none⟩ = some (.bool s.ready) := fun o1 o2 => pw_cell_below (below_alloc (below_alloc (Below.refl _ _) o1) o2) (blk_cell hs.1 2)
  have k3 : ∀ o1 o2, ((w.alloc o1).alloc o2).cell? ⟨g, 3, none⟩ = some (.bool (s.ready && s.expect)) := fun o1 o2 => pw_cell_below (below_alloc (below_alloc (Below.refl _ _) o1) o2) (blk_cell hs.1 3)
  have HS := Aside0.mk hs
  clear hs
  go_enter Try.func20, Try.ntmps20
  go_wp2
  go_quiet (fail)
  go_wp2
  have q0 : ∀ o1 o2 m, (((w.alloc o1).alloc o2).drewN m).cell? ⟨g, 0, none⟩ = some (.int .i64 s.own) := fun o1 o2 m => k0 o1 o2
  have q1 : ∀ o1 o2 m, (((w.alloc o1).alloc o2).drewN m).cell? ⟨g, 1, none⟩ = some (.int .i64 s.master) := fun o1 o2 m => k1 o1 o2
  go_region_held3 (fun w' => w'.cell? ⟨g, 0, none⟩ = some (.int .i64 s.own) ∧ w'.cell? ⟨g, 1, none⟩ = some (.int .i64 s.master)) (first | exact ⟨q0 _ _ _, q1 _ _ _⟩ | exact ⟨k0 _ _, k1 _ _⟩ | go_keep) (fail)
  generalize hW : (((w.alloc _).alloc _).drewN _).alloc _ = W
  obtain ⟨hz, ha, hg, hc, hf⟩ := rbase B g s w HS.out _ _ _ _ _ _ _ _ _ _ W hW
  clear hW k0 k1 q0 q1 k2 k3
  have hlg := HS.out.lt
  have z0 := blk_cell hz 0
  have z1 := blk_cell hz 1
  have z2 := blk_cell hz 2
  have z3 := blk_cell hz 3
  have zf0 := blk_frozen hz 0
  have zf1 := blk_frozen hz 1
  have zf2 := blk_frozen hz 2
  have zf3 := blk_frozen hz 3
  have a0 := blk_cell ha 0
  have a1 := blk_cell ha 1
  have a2 := blk_cell ha 2
  have a3 := blk_cell ha 3
  have af0 := blk_frozen ha 0
  have g2 := blk_cell hg.1 2
  have g3 := blk_cell hg.1 3
  have gf2 := blk_frozen hg.1 2
  have gf3 := blk_frozen hg.1 3
  have d0 := blk_cell hf 0
  have d3 := blk_cell hf 3
  simp only [List.getElem?_toArray, List.getElem?_cons_zero, List.getElem?_cons_succ] at z0 z1 z2 z3 a0 a1 a2 a3 g2 g3 d0 d3
  have HF := Aside0.mk hf
  have HZ := Aside0.mk hz
  have HA := Aside0.mk ha
  have HG := Aside0.mk hg
  have HC := Aside0.mk hc
  clear hz ha hg hc hf
  go_wp2
  refine bodyPost_ret (results_cttt (p := 4) (u := 5) (v := 6) (x := 7) rfl _ _ (w.heap.size + 1) 48 #[.int .i64 11, .int .i64 s.master, .int .i64 s.own, .slice none 0 0] (0, 0) _ rfl (set_four (((Below.heap_setCell _ _ _ _ (show w.heap.size + 1 ≠ w.heap.size + 1 + 1 by omega)).trans HZ.out)) _ _ _ _) Try.underlying48 rfl (by kernel_rfl)) rfl ⟨.slice none 0 0, by rw [ht.out]; rfl, ?_, ?_, ?_⟩
  · rw [ht.out]; exact own_nil _ _ _ _
  · rw [ht.out]; exact (HG.out.set (show g ≠ w.heap.size + 1 + 1 by omega) _).four (by omega) _ _ _ _
  · exact (HC.out.new (show w.heap.size ≤ w.heap.size + 1 + 1 by omega) _).four (Nat.le_succ _) _ _ _ _
set_option maxHeartbeats 2000000 in
set_option maxRecDepth 100000 in
theorem rtake_reset (B g : Nat) (s : St) (ctl dest src : Int) (A : Option Addr) (n c : Nat) (l : List Int) (w : World) (hs : IsRf B w g s) (e1 : (dest != s.own) = false) (e2 : (src != s.master) = false) (e3 : (bits .and .i64 ctl 192 != 192) = false) (e5 : (bits .and .i64 ctl 16 != 0) = false) (e6 : (bits .and .i64 ctl 15 == 2) = false) (e7 : (bits .and .i64 ctl 15 == 3) = false) (e8 : (bits .and .i64 ctl 15 == 0) = true) (ht : Aside0 (tk s ctl dest src = ⟨{ s with ready := true, expect := true }, some 0, false⟩)) :
    Calls Try.prog 20 #[.pointer (some ⟨g, 0, none⟩), .agg #[.int .i64 ctl, .int .i64 dest, .int .i64 src, .slice A n c]] w (RTakePost B g s (tk s ctl dest src) l w) := by
  have k0 : ∀ o1 o2, ((w.alloc o1).alloc o2).cell? ⟨g, 0, none⟩ = some (.int .i64 s.own) := fun o1 o2 => pw_cell_below (below_alloc (below_alloc (Below.refl _ _) o1) o2) (blk_cell hs.1 0)
  have k1 : ∀ o1 o2, ((w.alloc o1).alloc o2).cell? ⟨g, 1, none⟩ = some (.int .i64 s.master) := fun o1 o2 => pw_cell_below (below_alloc (below_alloc (Below.refl _ _) o1) o2) (blk_cell hs.1 1)
  have k2 : ∀ o1 o2, ((w.alloc o1).alloc o2).cell? ⟨g, 2, none⟩ = some (.bool s.ready) := fun o1 o2 => pw_cell_below (below_alloc (below_alloc (Below.refl _ _) o1) o2) (blk_cell hs.1 2)
  have k3 : ∀ o1 o2, ((w.alloc o1).alloc o2).cell? ⟨g, 3, none⟩ = some (.bool (s.ready && s.expect)) := fun o1 o2 => pw_cell_below (below_alloc (below_alloc (Below.refl _ _) o1) o2) (blk_cell hs.1 3)
  have HS := Aside0.mk hs
  clear hs
  go_enter Try.func20, Try.ntmps20
  go_wp2
  go_quiet (fail)
  go_wp2
  have q0 : ∀ o1 o2 m, (((w.alloc o1).alloc o2).drewN m).cell? ⟨g, 0, none⟩ = some (.int .i64 s.own) := fun o1 o2 m => k0 o1 o2
  have q1 : ∀ o1 o2 m, (((w.alloc o1).alloc o2).drewN m).cell? ⟨g, 1, none⟩ = some (.int .i64 s.master) := fun o1 o2 m => k1 o1 o2
  go_region_held3 (fun w' => w'.cell? ⟨g, 0, none⟩ = some (.int .i64 s.own) ∧ w'.cell? ⟨g, 1, none⟩ = some (.int .i64 s.master)) (first | exact ⟨q0 _ _ _, q1 _ _ _⟩ | exact ⟨k0 _ _, k1 _ _⟩ | go_keep) (fail)
  generalize hW : (((w.alloc _).alloc _).drewN _).alloc _ = W
  obtain ⟨hz, ha, hg, hc, hf⟩ := rbase B g s w HS.out _ _ _ _ _ _ _ _ _ _ W hW
  clear hW k0 k1 q0 q1 k2 k3
  have hlg := HS.out.lt
  have z0 := blk_cell hz 0
  have z1 := blk_cell hz 1
  have z2 := blk_cell hz 2
  have z3 := blk_cell hz 3
  have zf0 := blk_frozen hz 0
  have zf1 := blk_frozen hz 1
  have zf2 := blk_frozen hz 2
  have zf3 := blk_frozen hz 3
  have a0 := blk_cell ha 0
  have a1 := blk_cell ha 1
  have a2 := blk_cell ha 2
  have a3 := blk_cell ha 3
  have af0 := blk_frozen ha 0
  have g2 := blk_cell hg.1 2
  have g3 := blk_cell hg.1 3
  have gf2 := blk_frozen hg.1 2
  have gf3 := blk_frozen hg.1 3
  have d0 := blk_cell hf 0
  have d3 := blk_cell hf 3
  simp only [List.getElem?_toArray, List.getElem?_cons_zero, List.getElem?_cons_succ] at z0 z1 z2 z3 a0 a1 a2 a3 g2 g3 d0 d3
  have HF := Aside0.mk hf
  have HZ := Aside0.mk hz
  have HA := Aside0.mk ha
  have HG := Aside0.mk hg
  have HC := Aside0.mk hc
  clear hz ha hg hc hf
  go_wp2
  refine bodyPost_ret (results_cttt (p := 4) (u := 5) (v := 6) (x := 7) rfl _ _ (w.heap.size + 1) 48 #[.int .i64 0, .int .i64 s.master, .int .i64 s.own, .slice none 0 0] (0, 0) _ rfl (set_four (((Below.heap_setCell _ _ _ _ (show w.heap.size + 1 ≠ w.heap.size + 1 + 1 by omega)).trans ((Below.heap_setCell _ _ _ _ (show w.heap.size + 1 ≠ g by omega)).trans ((Below.heap_setCell _ _ _ _ (show w.heap.size + 1 ≠ g by omega)).trans HZ.out)))) _ _ _ _) Try.underlying48 rfl (by kernel_rfl)) rfl ⟨.slice none 0 0, by rw [ht.out]; rfl, ?_, ?_, ?_⟩
  · rw [ht.out]; exact own_nil _ _ _ _
  · rw [ht.out]; exact ((HG.out.flags true true rfl).set (show g ≠ w.heap.size + 1 + 1 by omega) _).four (by omega) _ _ _ _
  · exact (((HC.out.set 2 _).set 3 _).new (show w.heap.size ≤ w.heap.size + 1 + 1 by omega) _).four (Nat.le_succ _) _ _ _ _
set_option maxHeartbeats 2000000 in
set_option maxRecDepth 100000 in
theorem rtake_nack2 (B g : Nat) (s : St) (ctl dest src : Int) (A : Option Addr) (n c : Nat) (l : List Int) (w : World) (hs : IsRf B w g s) (e1 : (dest != s.own) = false) (e2 : (src != s.master) = false) (e3 : (bits .and .i64 ctl 192 != 192) = false) (e5 : (bits .and .i64 ctl 16 != 0) = true) (e6 : (bits .and .i64 ctl 15 == 2) = true) (e7 : (bits .and .i64 ctl 15 == 3) = false) (e8 : (bits .and .i64 ctl 15 == 0) = false) (er : s.ready = false) (ht : Aside0 (tk s ctl dest src = ⟨s, some 1, false⟩)) :
    Calls Try.prog 20 #[.pointer (some ⟨g, 0, none⟩), .agg #[.int .i64 ctl, .int .i64 dest, .int .i64 src, .slice A n c]] w (RTakePost B g s (tk s ctl dest src) l w) := by
  have k0 : ∀ o1 o2, ((w.alloc o1).alloc o2).cell? ⟨g, 0, none⟩ = some (.int .i64 s.own) := fun o1 o2 => pw_cell_below (below_alloc (below_alloc (Below.refl _ _) o1) o2) (blk_cell hs.1 0)
  have k1 : ∀ o1 o2, ((w.alloc o1).alloc o2).cell? ⟨g, 1, none⟩ = some (.int .i64 s.master) := fun o1 o2 => pw_cell_below (below_alloc (below_alloc (Below.refl _ _) o1) o2) (blk_cell hs.1 1)
  have k2 : ∀ o1 o2, ((w.alloc o1).alloc o2).cell? ⟨g, 2, none⟩ = some (.bool s.ready) := fun o1 o2 => pw_cell_below (below_alloc (below_alloc (Below.refl _ _) o1) o2) (blk_cell hs.1 2)
  have k3 : ∀ o1 o2, ((w.alloc o1).alloc o2).cell? ⟨g, 3, none⟩ = some (.bool (s.ready && s.expect)) := fun o1 o2 => pw_cell_below (below_alloc (below_alloc (Below.refl _ _) o1) o2) (blk_cell hs.1 3)
  have HS := Aside0.mk hs
  clear hs
  go_enter Try.func20, Try.ntmps20
  go_wp2
  go_quiet (fail)
  go_wp2
  have q0 : ∀ o1 o2 m, (((w.alloc o1).alloc o2).drewN m).cell? ⟨g, 0, none⟩ = some (.int .i64 s.own) := fun o1 o2 m => k0 o1 o2
  have q1 : ∀ o1 o2 m, (((w.alloc o1).alloc o2).drewN m).cell? ⟨g, 1, none⟩ = some (.int .i64 s.master) := fun o1 o2 m => k1 o1 o2
  go_region_held3 (fun w' => w'.cell? ⟨g, 0, none⟩ = some (.int .i64 s.own) ∧ w'.cell? ⟨g, 1, none⟩ = some (.int .i64 s.master)) (first | exact ⟨q0 _ _ _, q1 _ _ _⟩ | exact ⟨k0 _ _, k1 _ _⟩ | go_keep) (fail)
  generalize hW : (((w.alloc _).alloc _).drewN _).alloc _ = W
  obtain ⟨hz, ha, hg, hc, hf⟩ := rbase B g s w HS.out _ _ _ _ _ _ _ _ _ _ W hW
  clear hW k0 k1 q0 q1 k2 k3
  have hlg := HS.out.lt
  have z0 := blk_cell hz 0
  have z1 := blk_cell hz 1
  have z2 := blk_cell hz 2
  have z3 := blk_cell hz 3
  have zf0 := blk_frozen hz 0
  have zf1 := blk_frozen hz 1
  have zf2 := blk_frozen hz 2
  have zf3 := blk_frozen hz 3
  have a0 := blk_cell ha 0
  have a1 := blk_cell ha 1
  have a2 := blk_cell ha 2
  have a3 := blk_cell ha 3
  have af0 := blk_frozen ha 0
  have g2 := blk_cell hg.1 2
  have g3 := blk_cell hg.1 3
  have gf2 := blk_frozen hg.1 2
  have gf3 := blk_frozen hg.1 3
  have d0 := blk_cell hf 0
  have d3 := blk_cell hf 3
  simp only [List.getElem?_toArray, List.getElem?_cons_zero, List.getElem?_cons_succ] at z0 z1 z2 z3 a0 a1 a2 a3 g2 g3 d0 d3
  have HF := Aside0.mk hf
  have HZ := Aside0.mk hz
  have HA := Aside0.mk ha
  have HG := Aside0.mk hg
  have HC := Aside0.mk hc
  clear hz ha hg hc hf
  rw [er] at g2
  go_wp2
  refine bodyPost_ret (results_cttt (p := 4) (u := 5) (v := 6) (x := 7) rfl _ _ (w.heap.size + 1) 48 #[.int .i64 1, .int .i64 s.master, .int .i64 s.own, .slice none 0 0] (0, 0) _ rfl (set_four (((Below.heap_setCell _ _ _ _ (show w.heap.size + 1 ≠ w.heap.size + 1 + 1 by omega)).trans HZ.out)) _ _ _ _) Try.underlying48 rfl (by kernel_rfl)) rfl ⟨.slice none 0 0, by rw [ht.out]; rfl, ?_, ?_, ?_⟩
  · rw [ht.out]; exact own_nil _ _ _ _
  · rw [ht.out]; exact (HG.out.set (show g ≠ w.heap.size + 1 + 1 by omega) _).four (by omega) _ _ _ _
  · exact (HC.out.new (show w.heap.size ≤ w.heap.size + 1 + 1 by omega) _).four (Nat.le_succ _) _ _ _ _
set_option maxHeartbeats 2000000 in
set_option maxRecDepth 100000 in
theorem rtake_again2 (B g : Nat) (s : St) (ctl dest src : Int) (A : Option Addr) (n c : Nat) (l : List Int) (w : World) (hs : IsRf B w g s) (e1 : (dest != s.own) = false) (e2 : (src != s.master) = false) (e3 : (bits .and .i64 ctl 192 != 192) = false) (e5 : (bits .and .i64 ctl 16 != 0) = true) (e6 : (bits .and .i64 ctl 15 == 2) = true) (e7 : (bits .and .i64 ctl 15 == 3) = false) (e8 : (bits .and .i64 ctl 15 == 0) = false) (er : s.ready = true) (ex : ((bits .and .i64 ctl 32 != 0) != s.expect) = true) (ht : Aside0 (tk s ctl dest src = ⟨s, some 0, false⟩)) :
    Calls Try.prog 20 #[.pointer (some ⟨g, 0, none⟩), .agg #[.int .i64 ctl, .int .i64 dest, .int .i64 src, .slice A n c]] w (RTakePost B g s (tk s ctl dest src) l w) := by
  cases ef : (bits .and .i64 ctl 32 != 0) <;> cases ep : s.expect
  all_goals rw [ef, ep] at ex
  all_goals first | exact absurd ex (by decide) | skip
  all_goals
    have k0 : ∀ o1 o2, ((w.alloc o1).alloc o2).cell? ⟨g, 0, none⟩ = some (.int .i64 s.own) := fun o1 o2 => pw_cell_below (below_alloc (below_alloc (Below.refl _ _) o1) o2) (blk_cell hs.1 0)
    have k1 : ∀ o1 o2, ((w.alloc o1).alloc o2).cell? ⟨g, 1, none⟩ = some (.int .i64 s.master) := fun o1 o2 => pw_cell_below (below_alloc (below_alloc (Below.refl _ _) o1) o2) (blk_cell hs.1 1)
    have k2 : ∀ o1 o2, ((w.alloc o1).alloc o2).cell? ⟨g, 2, none⟩ = some (.bool s.ready) := fun o1 o2 => pw_cell_below (below_alloc (below_alloc (Below.refl _ _) o1) o2) (blk_cell hs.1 2)
    have k3 : ∀ o1 o2, ((w.alloc o1).alloc o2).cell? ⟨g, 3, none⟩ = some (.bool (s.ready && s.expect)) := fun o1 o2 => pw_cell_below (below_alloc (below_alloc (Below.refl _ _) o1) o2) (blk_cell hs.1 3)
    have HS := Aside0.mk hs
    clear hs
    go_enter Try.func20, Try.ntmps20
    go_wp2
    go_quiet (fail)
    go_wp2
    have q0 : ∀ o1 o2 m, (((w.alloc o1).alloc o2).drewN m).cell? ⟨g, 0, none⟩ = some (.int .i64 s.own) := fun o1 o2 m => k0 o1 o2
    have q1 : ∀ o1 o2 m, (((w.alloc o1).alloc o2).drewN m).cell? ⟨g, 1, none⟩ = some (.int .i64 s.master) := fun o1 o2 m => k1 o1 o2
    go_region_held3 (fun w' => w'.cell? ⟨g, 0, none⟩ = some (.int .i64 s.own) ∧ w'.cell? ⟨g, 1, none⟩ = some (.int .i64 s.master)) (first | exact ⟨q0 _ _ _, q1 _ _ _⟩ | exact ⟨k0 _ _, k1 _ _⟩ | go_keep) (fail)
    generalize hW : (((w.alloc _).alloc _).drewN _).alloc _ = W
    obtain ⟨hz, ha, hg, hc, hf⟩ := rbase B g s w HS.out _ _ _ _ _ _ _ _ _ _ W hW
    clear hW k0 k1 q0 q1 k2 k3
    have hlg := HS.out.lt
    have z0 := blk_cell hz 0
    have z1 := blk_cell hz 1
    have z2 := blk_cell hz 2
    have z3 := blk_cell hz 3
    have zf0 := blk_frozen hz 0
    have zf1 := blk_frozen hz 1
    have zf2 := blk_frozen hz 2
    have zf3 := blk_frozen hz 3
    have a0 := blk_cell ha 0
    have a1 := blk_cell ha 1
    have a2 := blk_cell ha 2
    have a3 := blk_cell ha 3
    have af0 := blk_frozen ha 0
    have g2 := blk_cell hg.1 2
    have g3 := blk_cell hg.1 3
    have gf2 := blk_frozen hg.1 2
    have gf3 := blk_frozen hg.1 3
    have d0 := blk_cell hf 0
    have d3 := blk_cell hf 3
    simp only [List.getElem?_toArray, List.getElem?_cons_zero, List.getElem?_cons_succ] at z0 z1 z2 z3 a0 a1 a2 a3 g2 g3 d0 d3
    have HF := Aside0.mk hf
    have HZ := Aside0.mk hz
    have HA := Aside0.mk ha
    have HG := Aside0.mk hg
    have HC := Aside0.mk hc
    clear hz ha hg hc hf
    rw [er, ep] at g3
    rw [er] at g2
    go_wp2
    go_quiet (fail)
    go_wp2
    refine bodyPost_ret (results_cttt (p := 4) (u := 5) (v := 6) (x := 7) rfl _ _ (w.heap.size + 1) 48 #[.int .i64 0, .int .i64 s.master, .int .i64 s.own, .slice none 0 0] (0, 0) _ rfl (set_four ((heap_drewN _ _ _).trans ((Below.heap_setCell _ _ _ _ (show w.heap.size + 1 ≠ w.heap.size + 1 + 1 by omega)).trans HZ.out)) _ _ _ _) Try.underlying48 rfl (by kernel_rfl)) rfl ⟨.slice none 0 0, by rw [ht.out]; rfl, ?_, ?_, ?_⟩
    · rw [ht.out]; exact own_nil _ _ _ _
    · rw [ht.out]; exact ((HG.out.set (show g ≠ w.heap.size + 1 + 1 by omega) _).drewN _).four (by omega) _ _ _ _
    · exact ((HC.out.new (show w.heap.size ≤ w.heap.size + 1 + 1 by omega) _).drewN _).four (Nat.le_succ _) _ _ _ _
set_option maxHeartbeats 2000000 in
set_option maxRecDepth 100000 in
theorem rtake_nack3 (B g : Nat) (s : St) (ctl dest src : Int) (A : Option Addr) (n c : Nat) (l : List Int) (w : World) (hs : IsRf B w g s) (e1 : (dest != s.own) = false) (e2 : (src != s.master) = false) (e3 : (bits .and .i64 ctl 192 != 192) = false) (e5 : (bits .and .i64 ctl 16 != 0) = true) (e6 : (bits .and .i64 ctl 15 == 2) = false) (e7 : (bits .and .i64 ctl 15 == 3) = true) (e8 : (bits .and .i64 ctl 15 == 0) = false) (er : s.ready = false) (ht : Aside0 (tk s ctl dest src = ⟨s, some 1, false⟩)) :
    Calls Try.prog 20 #[.pointer (some ⟨g, 0, none⟩), .agg #[.int .i64 ctl, .int .i64 dest, .int .i64 src, .slice A n c]] w (RTakePost B g s (tk s ctl dest src) l w) := by
  have k0 : ∀ o1 o2, ((w.alloc o1).alloc o2).cell? ⟨g, 0, none⟩ = some (.int .i64 s.own) := fun o1 o2 => pw_cell_below (below_alloc (below_alloc (Below.refl _ _) o1) o2) (blk_cell hs.1 0)
  have k1 : ∀ o1 o2, ((w.alloc o1).alloc o2).cell? ⟨g, 1, none⟩ = some (.int .i64 s.master) := fun o1 o2 => pw_cell_below (below_alloc (below_alloc (Below.refl _ _) o1) o2) (blk_cell hs.1 1)
  have k2 : ∀ o1 o2, ((w.alloc o1).alloc o2).cell? ⟨g, 2, none⟩ = some (.bool s.ready) := fun o1 o2 => pw_cell_below (below_alloc (below_alloc (Below.refl _ _) o1) o2) (blk_cell hs.1 2)
  have k3 : ∀ o1 o2, ((w.alloc o1).alloc o2).cell? ⟨g, 3, none⟩ = some (.bool (s.ready && s.expect)) := fun o1 o2 => pw_cell_below (below_alloc (below_alloc (Below.refl _ _) o1) o2) (blk_cell hs.1 3)
  have HS := Aside0.mk hs
  clear hs
  go_enter Try.func20, Try.ntmps20
  go_wp2
  go_quiet (fail)
  go_wp2
  have q0 : ∀ o1 o2 m, (((w.alloc o1).alloc o2).drewN m).cell? ⟨g, 0, none⟩ = some (.int .i64 s.own) := fun o1 o2 m => k0 o1 o2
  have q1 : ∀ o1 o2 m, (((w.alloc o1).alloc o2).drewN m).cell? ⟨g, 1, none⟩ = some (.int .i64 s.master) := fun o1 o2 m => k1 o1 o2
  go_region_held3 (fun w' => w'.cell? ⟨g, 0, none⟩ = some (.int .i64 s.own) ∧ w'.cell? ⟨g, 1, none⟩ = some (.int .i64 s.master)) (first | exact ⟨q0 _ _ _, q1 _ _ _⟩ | exact ⟨k0 _ _, k1 _ _⟩ | go_keep) (fail)
  generalize hW : (((w.alloc _).alloc _).drewN _).alloc _ = W
  obtain ⟨hz, ha, hg, hc, hf⟩ := rbase B g s w HS.out _ _ _ _ _ _ _ _ _ _ W hW
  clear hW k0 k1 q0 q1 k2 k3
  have hlg := HS.out.lt
  have z0 := blk_cell hz 0
  have z1 := blk_cell hz 1
  have z2 := blk_cell hz 2
  have z3 := blk_cell hz 3
  have zf0 := blk_frozen hz 0
  have zf1 := blk_frozen hz 1
  have zf2 := blk_frozen hz 2
  have zf3 := blk_frozen hz 3
  have a0 := blk_cell ha 0
  have a1 := blk_cell ha 1
  have a2 := blk_cell ha 2
  have a3 := blk_cell ha 3
  have af0 := blk_frozen ha 0
  have g2 := blk_cell hg.1 2
  have g3 := blk_cell hg.1 3
  have gf2 := blk_frozen hg.1 2
  have gf3 := blk_frozen hg.1 3
  have d0 := blk_cell hf 0
  have d3 := blk_cell hf 3
  simp only [List.getElem?_toArray, List.getElem?_cons_zero, List.getElem?_cons_succ] at z0 z1 z2 z3 a0 a1 a2 a3 g2 g3 d0 d3
  have HF := Aside0.mk hf
  have HZ := Aside0.mk hz
  have HA := Aside0.mk ha
  have HG := Aside0.mk hg
  have HC := Aside0.mk hc
  clear hz ha hg hc hf
  rw [er] at g2
  go_wp2
  refine bodyPost_ret (results_cttt (p := 4) (u := 5) (v := 6) (x := 7) rfl _ _ (w.heap.size + 1) 48 #[.int .i64 1, .int .i64 s.master, .int .i64 s.own, .slice none 0 0] (0, 0) _ rfl (set_four (((Below.heap_setCell _ _ _ _ (show w.heap.size + 1 ≠ w.heap.size + 1 + 1 by omega)).trans HZ.out)) _ _ _ _) Try.underlying48 rfl (by kernel_rfl)) rfl ⟨.slice none 0 0, by rw [ht.out]; rfl, ?_, ?_, ?_⟩
  · rw [ht.out]; exact own_nil _ _ _ _
  · rw [ht.out]; exact (HG.out.set (show g ≠ w.heap.size + 1 + 1 by omega) _).four (by omega) _ _ _ _
  · exact (HC.out.new (show w.heap.size ≤ w.heap.size + 1 + 1 by omega) _).four (Nat.le_succ _) _ _ _ _
set_option maxHeartbeats 2000000 in
set_option maxRecDepth 100000 in
theorem rtake_again3 (B g : Nat) (s : St) (ctl dest src : Int) (A : Option Addr) (n c : Nat) (l : List Int) (w : World) (hs : IsRf B w g s) (e1 : (dest != s.own) = false) (e2 : (src != s.master) = false) (e3 : (bits .and .i64 ctl 192 != 192) = false) (e5 : (bits .and .i64 ctl 16 != 0) = true) (e6 : (bits .and .i64 ctl 15 == 2) = false) (e7 : (bits .and .i64 ctl 15 == 3) = true) (e8 : (bits .and .i64 ctl 15 == 0) = false) (er : s.ready = true) (ex : ((bits .and .i64 ctl 32 != 0) != s.expect) = true) (ht : Aside0 (tk s ctl dest src = ⟨s, some 0, false⟩)) :
    Calls Try.prog 20 #[.pointer (some ⟨g, 0, none⟩), .agg #[.int .i64 ctl, .int .i64 dest, .int .i64 src, .slice A n c]] w (RTakePost B g s (tk s ctl dest src) l w) := by
  cases ef : (bits .and .i64 ctl 32 != 0) <;> cases ep : s.expect
  all_goals rw [ef, ep] at ex
  all_goals first | exact absurd ex (by decide) | skip
  all_goals
    have k0 : ∀ o1 o2, ((w.alloc o1).alloc o2).cell? ⟨g, 0, none⟩ = some (.int .i64 s.own) := fun o1 o2 => pw_cell_below (below_alloc (below_alloc (Below.refl _ _) o1) o2) (blk_cell hs.1 0)
    have k1 : ∀ o1 o2, ((w.alloc o1).alloc o2).cell? ⟨g, 1, none⟩ = some (.int .i64 s.master) := fun o1 o2 => pw_cell_below (below_alloc (below_alloc (Below.refl _ _) o1) o2) (blk_cell hs.1 1)
    have k2 : ∀ o1 o2, ((w.alloc o1).alloc o2).cell? ⟨g, 2, none⟩ = some (.bool s.ready) := fun o1 o2 => pw_cell_below (below_alloc (below_alloc (Below.refl _ _) o1) o2) (blk_cell hs.1 2)
    have k3 : ∀ o1 o2, ((w.alloc o1).alloc o2).cell? ⟨g, 3, none⟩ = some (.bool (s.ready && s.expect)) := fun o1 o2 => pw_cell_below (below_alloc (below_alloc (Below.refl _ _) o1) o2) (blk_cell hs.1 3)
    have HS := Aside0.mk hs
    clear hs
    go_enter Try.func20, Try.ntmps20
    go_wp2
    go_quiet (fail)
    go_wp2
    have q0 : ∀ o1 o2 m, (((w.alloc o1).alloc o2).drewN m).cell? ⟨g, 0, none⟩ = some (.int .i64 s.own) := fun o1 o2 m => k0 o1 o2
    have q1 : ∀ o1 o2 m, (((w.alloc o1).alloc o2).drewN m).cell? ⟨g, 1, none⟩ = some (.int .i64 s.master) := fun o1 o2 m => k1 o1 o2
    go_region_held3 (fun w' => w'.cell? ⟨g, 0, none⟩ = some (.int .i64 s.own) ∧ w'.cell? ⟨g, 1, none⟩ = some (.int .i64 s.master)) (first | exact ⟨q0 _ _ _, q1 _ _ _⟩ | exact ⟨k0 _ _, k1 _ _⟩ | go_keep) (fail)
    generalize hW : (((w.alloc _).alloc _).drewN _).alloc _ = W
    obtain ⟨hz, ha, hg, hc, hf⟩ := rbase B g s w HS.out _ _ _ _ _ _ _ _ _ _ W hW
    clear hW k0 k1 q0 q1 k2 k3
    have hlg := HS.out.lt
    have z0 := blk_cell hz 0
    have z1 := blk_cell hz 1
    have z2 := blk_cell hz 2
    have z3 := blk_cell hz 3
    have zf0 := blk_frozen hz 0
    have zf1 := blk_frozen hz 1
    have zf2 := blk_frozen hz 2
    have zf3 := blk_frozen hz 3
    have a0 := blk_cell ha 0
    have a1 := blk_cell ha 1
    have a2 := blk_cell ha 2
    have a3 := blk_cell ha 3
    have af0 := blk_frozen ha 0
    have g2 := blk_cell hg.1 2
    have g3 := blk_cell hg.1 3
    have gf2 := blk_frozen hg.1 2
    have gf3 := blk_frozen hg.1 3
    have d0 := blk_cell hf 0
    have d3 := blk_cell hf 3
    simp only [List.getElem?_toArray, List.getElem?_cons_zero, List.getElem?_cons_succ] at z0 z1 z2 z3 a0 a1 a2 a3 g2 g3 d0 d3
    have HF := Aside0.mk hf
    have HZ := Aside0.mk hz
    have HA := Aside0.mk ha
    have HG := Aside0.mk hg
    have HC := Aside0.mk hc
    clear hz ha hg hc hf
    rw [er, ep] at g3
    rw [er] at g2
    go_wp2
    go_quiet (fail)
    go_wp2
    refine bodyPost_ret (results_cttt (p := 4) (u := 5) (v := 6) (x := 7) rfl _ _ (w.heap.size + 1) 48 #[.int .i64 0, .int .i64 s.master, .int .i64 s.own, .slice none 0 0] (0, 0) _ rfl (set_four ((heap_drewN _ _ _).trans ((Below.heap_setCell _ _ _ _ (show w.heap.size + 1 ≠ w.heap.size + 1 + 1 by omega)).trans HZ.out)) _ _ _ _) Try.underlying48 rfl (by kernel_rfl)) rfl ⟨.slice none 0 0, by rw [ht.out]; rfl, ?_, ?_, ?_⟩
    · rw [ht.out]; exact own_nil _ _ _ _
    · rw [ht.out]; exact ((HG.out.set (show g ≠ w.heap.size + 1 + 1 by omega) _).drewN _).four (by omega) _ _ _ _
    · exact ((HC.out.new (show w.heap.size ≤ w.heap.size + 1 + 1 by omega) _).drewN _).four (Nat.le_succ _) _ _ _ _
set_option maxHeartbeats 2000000 in
set_option maxRecDepth 100000 in
theorem rtake_tog2true (B g : Nat) (s : St) (ctl dest src : Int) (A : Option Addr) (n c : Nat) (l : List Int) (w : World) (hs : IsRf B w g s) (e1 : (dest != s.own) = false) (e2 : (src != s.master) = false) (e3 : (bits .and .i64 ctl 192 != 192) = false) (e5 : (bits .and .i64 ctl 16 != 0) = true) (e6 : (bits .and .i64 ctl 15 == 2) = true) (e7 : (bits .and .i64 ctl 15 == 3) = false) (e8 : (bits .and .i64 ctl 15 == 0) = false) (er : s.ready = true) (ef : (bits .and .i64 ctl 32 != 0) = true) (ep : s.expect = true) (ht : Aside0 (tk s ctl dest src = ⟨{ s with expect := false }, some 0, false⟩)) :
    Calls Try.prog 20 #[.pointer (some ⟨g, 0, none⟩), .agg #[.int .i64 ctl, .int .i64 dest, .int .i64 src, .slice A n c]] w (RTakePost B g s (tk s ctl dest src) l w) := by
  have k0 : ∀ o1 o2, ((w.alloc o1).alloc o2).cell? ⟨g, 0, none⟩ = some (.int .i64 s.own) := fun o1 o2 => pw_cell_below (below_alloc (below_alloc (Below.refl _ _) o1) o2) (blk_cell hs.1 0)
  have k1 : ∀ o1 o2, ((w.alloc o1).alloc o2).cell? ⟨g, 1, none⟩ = some (.int .i64 s.master) := fun o1 o2 => pw_cell_below (below_alloc (below_alloc (Below.refl _ _) o1) o2) (blk_cell hs.1 1)
  have k2 : ∀ o1 o2, ((w.alloc o1).alloc o2).cell? ⟨g, 2, none⟩ = some (.bool s.ready) := fun o1 o2 => pw_cell_below (below_alloc (below_alloc (Below.refl _ _) o1) o2) (blk_cell hs.1 2)
  have k3 : ∀ o1 o2, ((w.alloc o1).alloc o2).cell? ⟨g, 3, none⟩ = some (.bool (s.ready && s.expect)) := fun o1 o2 => pw_cell_below (below_alloc (below_alloc (Below.refl _ _) o1) o2) (blk_cell hs.1 3)
  have HS := Aside0.mk hs
  clear hs
  go_enter Try.func20, Try.ntmps20
  go_wp2
  go_quiet (fail)
  go_wp2
  have q0 : ∀ o1 o2 m, (((w.alloc o1).alloc o2).drewN m).cell? ⟨g, 0, none⟩ = some (.int .i64 s.own) := fun o1 o2 m => k0 o1 o2
  have q1 : ∀ o1 o2 m, (((w.alloc o1).alloc o2).drewN m).cell? ⟨g, 1, none⟩ = some (.int .i64 s.master) := fun o1 o2 m => k1 o1 o2
  go_region_held3 (fun w' => w'.cell? ⟨g, 0, none⟩ = some (.int .i64 s.own) ∧ w'.cell? ⟨g, 1, none⟩ = some (.int .i64 s.master)) (first | exact ⟨q0 _ _ _, q1 _ _ _⟩ | exact ⟨k0 _ _, k1 _ _⟩ | go_keep) (fail)
  generalize hW : (((w.alloc _).alloc _).drewN _).alloc _ = W
  obtain ⟨hz, ha, hg, hc, hf⟩ := rbase B g s w HS.out _ _ _ _ _ _ _ _ _ _ W hW
  clear hW k0 k1 q0 q1 k2 k3
  have hlg := HS.out.lt
  have z0 := blk_cell hz 0
  have z1 := blk_cell hz 1
  have z2 := blk_cell hz 2
  have z3 := blk_cell hz 3
  have zf0 := blk_frozen hz 0
  have zf1 := blk_frozen hz 1
  have zf2 := blk_frozen hz 2
  have zf3 := blk_frozen hz 3
  have a0 := blk_cell ha 0
  have a1 := blk_cell ha 1
  have a2 := blk_cell ha 2
  have a3 := blk_cell ha 3
  have af0 := blk_frozen ha 0
  have g2 := blk_cell hg.1 2
  have g3 := blk_cell hg.1 3
  have gf2 := blk_frozen hg.1 2
  have gf3 := blk_frozen hg.1 3
  have d0 := blk_cell hf 0
  have d3 := blk_cell hf 3
  simp only [List.getElem?_toArray, List.getElem?_cons_zero, List.getElem?_cons_succ] at z0 z1 z2 z3 a0 a1 a2 a3 g2 g3 d0 d3
  have HF := Aside0.mk hf
  have HZ := Aside0.mk hz
  have HA := Aside0.mk ha
  have HG := Aside0.mk hg
  have HC := Aside0.mk hc
  clear hz ha hg hc hf
  rw [er, ep] at g3
  rw [er] at g2
  go_wp2
  go_quiet (fail)
  go_wp2
  refine bodyPost_ret (results_cttt (p := 4) (u := 5) (v := 6) (x := 7) rfl _ _ (w.heap.size + 1) 48 #[.int .i64 0, .int .i64 s.master, .int .i64 s.own, .slice none 0 0] (0, 0) _ rfl (set_four ((Below.heap_setCell _ _ _ _ (show w.heap.size + 1 ≠ g by omega)).trans ((heap_drewN _ _ _).trans ((Below.heap_setCell _ _ _ _ (show w.heap.size + 1 ≠ w.heap.size + 1 + 1 by omega)).trans HZ.out))) _ _ _ _) Try.underlying48 rfl (by kernel_rfl)) rfl ⟨.slice none 0 0, by rw [ht.out]; rfl, ?_, ?_, ?_⟩
  · rw [ht.out]; exact own_nil _ _ _ _
  · rw [ht.out]; exact (((HG.out.set (show g ≠ w.heap.size + 1 + 1 by omega) _).drewN _).flag er false).four (by omega) _ _ _ _
  · exact (((HC.out.new (show w.heap.size ≤ w.heap.size + 1 + 1 by omega) _).drewN _).set 3 _).four (Nat.le_succ _) _ _ _ _
set_option maxHeartbeats 2000000 in
set_option maxRecDepth 100000 in
theorem rtake_tog2false (B g : Nat) (s : St) (ctl dest src : Int) (A : Option Addr) (n c : Nat) (l : List Int) (w : World) (hs : IsRf B w g s) (e1 : (dest != s.own) = false) (e2 : (src != s.master) = false) (e3 : (bits .and .i64 ctl 192 != 192) = false) (e5 : (bits .and .i64 ctl 16 != 0) = true) (e6 : (bits .and .i64 ctl 15 == 2) = true) (e7 : (bits .and .i64 ctl 15 == 3) = false) (e8 : (bits .and .i64 ctl 15 == 0) = false) (er : s.ready = true) (ef : (bits .and .i64 ctl 32 != 0) = false) (ep : s.expect = false) (ht : Aside0 (tk s ctl dest src = ⟨{ s with expect := true }, some 0, false⟩)) :
    Calls Try.prog 20 #[.pointer (some ⟨g, 0, none⟩), .agg #[.int .i64 ctl, .int .i64 dest, .int .i64 src, .slice A n c]] w (RTakePost B g s (tk s ctl dest src) l w) := by
  have k0 : ∀ o1 o2, ((w.alloc o1).alloc o2).cell? ⟨g, 0, none⟩ = some (.int .i64 s.own) := fun o1 o2 => pw_cell_below (below_alloc (below_alloc (Below.refl _ _) o1) o2) (blk_cell hs.1 0)
  have k1 : ∀ o1 o2, ((w.alloc o1).alloc o2).cell? ⟨g, 1, none⟩ = some (.int .i64 s.master) := fun o1 o2 => pw_cell_below (below_alloc (below_alloc (Below.refl _ _) o1) o2) (blk_cell hs.1 1)
  have k2 : ∀ o1 o2, ((w.alloc o1).alloc o2).cell? ⟨g, 2, none⟩ = some (.bool s.ready) := fun o1 o2 => pw_cell_below (below_alloc (below_alloc (Below.refl _ _) o1) o2) (blk_cell hs.1 2)
  have k3 : ∀ o1 o2, ((w.alloc o1).alloc o2).cell? ⟨g, 3, none⟩ = some (.bool (s.ready && s.expect)) := fun o1 o2 => pw_cell_below (below_alloc (below_alloc (Below.refl _ _) o1) o2) (blk_cell hs.1 3)
  have HS := Aside0.mk hs
  clear hs
  go_enter Try.func20, Try.ntmps20
  go_wp2
  go_quiet (fail)
  go_wp2
  have q0 : ∀ o1 o2 m, (((w.alloc o1).alloc o2).drewN m).cell? ⟨g, 0, none⟩ = some (.int .i64 s.own) := fun o1 o2 m => k0 o1 o2
  have q1 : ∀ o1 o2 m, (((w.alloc o1).alloc o2).drewN m).cell? ⟨g, 1, none⟩ = some (.int .i64 s.master) := fun o1 o2 m => k1 o1 o2
  go_region_held3 (fun w' => w'.cell? ⟨g, 0, none⟩ = some (.int .i64 s.own) ∧ w'.cell? ⟨g, 1, none⟩ = some (.int .i64 s.master)) (first | exact ⟨q0 _ _ _, q1 _ _ _⟩ | exact ⟨k0 _ _, k1 _ _⟩ | go_keep) (fail)
  generalize hW : (((w.alloc _).alloc _).drewN _).alloc _ = W
  obtain ⟨hz, ha, hg, hc, hf⟩ := rbase B g s w HS.out _ _ _ _ _ _ _ _ _ _ W hW
  clear hW k0 k1 q0 q1 k2 k3
  have hlg := HS.out.lt
  have z0 := blk_cell hz 0
  have z1 := blk_cell hz 1
  have z2 := blk_cell hz 2
  have z3 := blk_cell hz 3
  have zf0 := blk_frozen hz 0
  have zf1 := blk_frozen hz 1
  have zf2 := blk_frozen hz 2
  have zf3 := blk_frozen hz 3
  have a0 := blk_cell ha 0
  have a1 := blk_cell ha 1
  have a2 := blk_cell ha 2
  have a3 := blk_cell ha 3
  have af0 := blk_frozen ha 0
  have g2 := blk_cell hg.1 2
  have g3 := blk_cell hg.1 3
  have gf2 := blk_frozen hg.1 2
  have gf3 := blk_frozen hg.1 3
  have d0 := blk_cell hf 0
  have d3 := blk_cell hf 3
  simp only [List.getElem?_toArray, List.getElem?_cons_zero, List.getElem?_cons_succ] at z0 z1 z2 z3 a0 a1 a2 a3 g2 g3 d0 d3
  have HF := Aside0.mk hf
  have HZ := Aside0.mk hz
  have HA := Aside0.mk ha
  have HG := Aside0.mk hg
  have HC := Aside0.mk hc
  clear hz ha hg hc hf
  rw [er, ep] at g3
  rw [er] at g2
  go_wp2
  go_quiet (fail)
  go_wp2
  refine bodyPost_ret (results_cttt (p := 4) (u := 5) (v := 6) (x := 7) rfl _ _ (w.heap.size + 1) 48 #[.int .i64 0, .int .i64 s.master, .int .i64 s.own, .slice none 0 0] (0, 0) _ rfl (set_four ((Below.heap_setCell _ _ _ _ (show w.heap.size + 1 ≠ g by omega)).trans ((heap_drewN _ _ _).trans ((Below.heap_setCell _ _ _ _ (show w.heap.size + 1 ≠ w.heap.size + 1 + 1 by omega)).trans HZ.out))) _ _ _ _) Try.underlying48 rfl (by kernel_rfl)) rfl ⟨.slice none 0 0, by rw [ht.out]; rfl, ?_, ?_, ?_⟩
  · rw [ht.out]; exact own_nil _ _ _ _
  · rw [ht.out]; exact (((HG.out.set (show g ≠ w.heap.size + 1 + 1 by omega) _).drewN _).flag er true).four (by omega) _ _ _ _
  · exact (((HC.out.new (show w.heap.size ≤ w.heap.size + 1 + 1 by omega) _).drewN _).set 3 _).four (Nat.le_succ _) _ _ _ _
end Go.Proofs.Ytpepgblmcjgbgaa
