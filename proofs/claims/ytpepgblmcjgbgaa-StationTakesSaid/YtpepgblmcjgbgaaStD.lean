/- The secondary station: what a frame that is ours and turns the station does, way by way. Conditions: bytes are bytes. -/
import Derived.Test.YtpepgblmcjgbgaaStC
namespace Go.Proofs.Ytpepgblmcjgbgaa
open Go.RowKit Go.Proofs.YtpepgblmcjgbgaaW.PrintWords
set_option linter.unusedVariables false

theorem IsSt.flags {B : Nat} {w : World} {g : Nat} {s : St} (h : IsSt B w g s) (a b : Bool) : IsSt B ((w.setCell ⟨g, 2, none⟩ (.bool a)).setCell ⟨g, 3, none⟩ (.bool b)) g { s with ready := a, expect := b } := by
  have h' := blk_set (blk_set h.1 2 (.bool a)) 3 (.bool b)
  exact ⟨by simpa using h', h.2⟩
theorem IsSt.flag {B : Nat} {w : World} {g : Nat} {s : St} (h : IsSt B w g s) (b : Bool) : IsSt B (w.setCell ⟨g, 3, none⟩ (.bool b)) g { s with expect := b } := by
  have h' := blk_set h.1 3 (.bool b)
  exact ⟨by simpa using h', h.2⟩
set_option maxHeartbeats 2000000 in
set_option maxRecDepth 100000 in
theorem take_reset (B g : Nat) (s : St) (ctl dest src : Int) (A : Option Addr) (n c : Nat) (l : List Int) (w : World) (hs : IsSt B w g s) (e1 : (dest != s.own) = false) (e2 : (src != s.master) = false) (e3 : (bits .and .i64 ctl 128 == 0) = false) (e4 : (bits .and .i64 ctl 64 == 0) = false) (e5 : (bits .and .i64 ctl 16 != 0) = false) (e6 : (bits .and .i64 ctl 15 == 2) = false) (e7 : (bits .and .i64 ctl 15 == 3) = false) (e8 : (bits .and .i64 ctl 15 == 0) = true) (ht : Aside0 (tk s ctl dest src = ⟨{ s with ready := true, expect := true }, some 0, false⟩)) :
    Calls Try.prog 11 #[.pointer (some ⟨g, 0, none⟩), .agg #[.int .i64 ctl, .int .i64 dest, .int .i64 src, .slice A n c]] w (TakePost B g s (tk s ctl dest src) l w) := by
  have HS := Aside0.mk hs
  have k0 : ∀ o1 o2, ((w.alloc o1).alloc o2).cell? ⟨g, 0, none⟩ = some (.int .i64 s.own) := fun o1 o2 => pw_cell_below (below_alloc (below_alloc (Below.refl _ _) o1) o2) (blk_cell hs.1 0)
  have k1 : ∀ o1 o2, ((w.alloc o1).alloc o2).cell? ⟨g, 1, none⟩ = some (.int .i64 s.master) := fun o1 o2 => pw_cell_below (below_alloc (below_alloc (Below.refl _ _) o1) o2) (blk_cell hs.1 1)
  have k2 : ∀ o1 o2, ((w.alloc o1).alloc o2).cell? ⟨g, 2, none⟩ = some (.bool s.ready) := fun o1 o2 => pw_cell_below (below_alloc (below_alloc (Below.refl _ _) o1) o2) (blk_cell hs.1 2)
  have k3 : ∀ o1 o2, ((w.alloc o1).alloc o2).cell? ⟨g, 3, none⟩ = some (.bool s.expect) := fun o1 o2 => pw_cell_below (below_alloc (below_alloc (Below.refl _ _) o1) o2) (blk_cell hs.1 3)
  have HS2 : ∀ o1 o2 n, IsSt B (((w.alloc o1).alloc o2).drewN n) g s := fun o1 o2 n => (HS.out.below (below_alloc (below_alloc (Below.refl _ _) _) _)).drewN n
  clear hs
  have fr2 := fun o1 o2 => blk_frozen (blk_below HS.out.1 (below_alloc (below_alloc (Below.refl w.heap.size w) o1) o2)) 2
  have fr3 := fun o1 o2 => blk_frozen (blk_below HS.out.1 (below_alloc (below_alloc (Below.refl w.heap.size w) o1) o2)) 3
  have hlt := HS.out.lt
  go_enter Try.func11, Try.ntmps11
  go_wp2
  go_quiet (fail)
  go_wp2_with fail
  (with_reducible refine (answer_any B g { s with ready := true, expect := true } 0 _ ((HS2 _ _ _).flags true true)).mono ?_)
  rintro _ w5 ⟨rfl, hb5⟩
  have h5 := blk_below ((Below.heap_setCell _ _ _ _ (show w.heap.size + 1 ≠ g by omega)).trans ((Below.heap_setCell _ _ _ _ (show w.heap.size + 1 ≠ g by omega)).trans (heap_twoN w _ _ _))) hb5
  have c50 := blk_cell h5 0
  have c51 := blk_cell h5 1
  have c52 := blk_cell h5 2
  have c53 := blk_cell h5 3
  have f50 := blk_frozen h5 0
  have f51 := blk_frozen h5 1
  have f52 := blk_frozen h5 2
  have f53 := blk_frozen h5 3
  simp only [List.getElem?_toArray, List.getElem?_cons_zero, List.getElem?_cons_succ] at c50 c51 c52 c53
  have H5 := Aside0.mk h5
  have HB5 := Aside0.mk hb5
  clear h5 hb5
  go_wp2
  refine bodyPost_ret (results_cttt (p := 4) (u := 5) (v := 6) (x := 7) rfl _ _ (w.heap.size + 1) 29 #[.int .i64 0, .int .i64 s.master, .int .i64 s.own, .slice none 0 0] (0, 0) _ rfl (set_four H5.out _ _ _ _) Try.underlying29 rfl (by kernel_rfl)) rfl ⟨.slice none 0 0, by rw [ht.out]; rfl, ?_, ?_, ?_⟩
  · rw [ht.out]; exact own_nil _ _ _ _
  · rw [ht.out]; exact ⟨keep_four (blk_below ((HS2 _ _ _).flags true true).1 HB5.out) (by have := HS.out.lt; omega) _ _ _ _, HS.out.2⟩
  · exact (((((((Chg.refl g w).alloc _).alloc _).drewN _).set 2 _).set 3 _).then_below HB5.out).four (Nat.le_succ _) _ _ _ _
set_option maxHeartbeats 2000000 in
set_option maxRecDepth 100000 in
theorem take_tog2true (B g : Nat) (s : St) (ctl dest src : Int) (A : Option Addr) (n c : Nat) (l : List Int) (w : World) (hs : IsSt B w g s) (e1 : (dest != s.own) = false) (e2 : (src != s.master) = false) (e3 : (bits .and .i64 ctl 128 == 0) = false) (e4 : (bits .and .i64 ctl 64 == 0) = false) (e5 : (bits .and .i64 ctl 16 != 0) = true) (e6 : (bits .and .i64 ctl 15 == 2) = true) (e7 : (bits .and .i64 ctl 15 == 3) = false) (e8 : (bits .and .i64 ctl 15 == 0) = false) (er : s.ready = true) (ef : (bits .and .i64 ctl 32 != 0) = true) (ep : s.expect = true) (ht : Aside0 (tk s ctl dest src = ⟨{ s with expect := false }, some 0, false⟩)) :
    Calls Try.prog 11 #[.pointer (some ⟨g, 0, none⟩), .agg #[.int .i64 ctl, .int .i64 dest, .int .i64 src, .slice A n c]] w (TakePost B g s (tk s ctl dest src) l w) := by
  have HS := Aside0.mk hs
  have k0 : ∀ o1 o2, ((w.alloc o1).alloc o2).cell? ⟨g, 0, none⟩ = some (.int .i64 s.own) := fun o1 o2 => pw_cell_below (below_alloc (below_alloc (Below.refl _ _) o1) o2) (blk_cell hs.1 0)
  have k1 : ∀ o1 o2, ((w.alloc o1).alloc o2).cell? ⟨g, 1, none⟩ = some (.int .i64 s.master) := fun o1 o2 => pw_cell_below (below_alloc (below_alloc (Below.refl _ _) o1) o2) (blk_cell hs.1 1)
  have k2 : ∀ o1 o2, ((w.alloc o1).alloc o2).cell? ⟨g, 2, none⟩ = some (.bool s.ready) := fun o1 o2 => pw_cell_below (below_alloc (below_alloc (Below.refl _ _) o1) o2) (blk_cell hs.1 2)
  have k3 : ∀ o1 o2, ((w.alloc o1).alloc o2).cell? ⟨g, 3, none⟩ = some (.bool s.expect) := fun o1 o2 => pw_cell_below (below_alloc (below_alloc (Below.refl _ _) o1) o2) (blk_cell hs.1 3)
  have HS2 : ∀ o1 o2 n, IsSt B (((w.alloc o1).alloc o2).drewN n) g s := fun o1 o2 n => (HS.out.below (below_alloc (below_alloc (Below.refl _ _) _) _)).drewN n
  clear hs
  have fr2 := fun o1 o2 => blk_frozen (blk_below HS.out.1 (below_alloc (below_alloc (Below.refl w.heap.size w) o1) o2)) 2
  have fr3 := fun o1 o2 => blk_frozen (blk_below HS.out.1 (below_alloc (below_alloc (Below.refl w.heap.size w) o1) o2)) 3
  have hlt := HS.out.lt
  rw [er] at k2
  rw [ep] at k3
  go_enter Try.func11, Try.ntmps11
  go_wp2
  go_quiet (fail)
  go_wp2
  go_quiet (fail)
  go_wp2_with fail
  (with_reducible refine (answer_any B g { s with expect := false } 0 _ ((HS2 _ _ _).flag false)).mono ?_)
  rintro _ w5 ⟨rfl, hb5⟩
  have h5 := blk_below ((Below.heap_setCell _ _ _ _ (show w.heap.size + 1 ≠ g by omega)).trans (heap_twoN w _ _ _)) hb5
  have c50 := blk_cell h5 0
  have c51 := blk_cell h5 1
  have c52 := blk_cell h5 2
  have c53 := blk_cell h5 3
  have f50 := blk_frozen h5 0
  have f51 := blk_frozen h5 1
  have f52 := blk_frozen h5 2
  have f53 := blk_frozen h5 3
  simp only [List.getElem?_toArray, List.getElem?_cons_zero, List.getElem?_cons_succ] at c50 c51 c52 c53
  have H5 := Aside0.mk h5
  have HB5 := Aside0.mk hb5
  clear h5 hb5
  go_wp2
  refine bodyPost_ret (results_cttt (p := 4) (u := 5) (v := 6) (x := 7) rfl _ _ (w.heap.size + 1) 29 #[.int .i64 0, .int .i64 s.master, .int .i64 s.own, .slice none 0 0] (0, 0) _ rfl (set_four H5.out _ _ _ _) Try.underlying29 rfl (by kernel_rfl)) rfl ⟨.slice none 0 0, by rw [ht.out]; rfl, ?_, ?_, ?_⟩
  · rw [ht.out]; exact own_nil _ _ _ _
  · rw [ht.out]; exact ⟨keep_four (blk_below ((HS2 _ _ _).flag false).1 HB5.out) (by have := HS.out.lt; omega) _ _ _ _, HS.out.2⟩
  · exact ((((((Chg.refl g w).alloc _).alloc _).drewN _).set 3 _).then_below HB5.out).four (Nat.le_succ _) _ _ _ _
set_option maxHeartbeats 2000000 in
set_option maxRecDepth 100000 in
theorem take_tog2false (B g : Nat) (s : St) (ctl dest src : Int) (A : Option Addr) (n c : Nat) (l : List Int) (w : World) (hs : IsSt B w g s) (e1 : (dest != s.own) = false) (e2 : (src != s.master) = false) (e3 : (bits .and .i64 ctl 128 == 0) = false) (e4 : (bits .and .i64 ctl 64 == 0) = false) (e5 : (bits .and .i64 ctl 16 != 0) = true) (e6 : (bits .and .i64 ctl 15 == 2) = true) (e7 : (bits .and .i64 ctl 15 == 3) = false) (e8 : (bits .and .i64 ctl 15 == 0) = false) (er : s.ready = true) (ef : (bits .and .i64 ctl 32 != 0) = false) (ep : s.expect = false) (ht : Aside0 (tk s ctl dest src = ⟨{ s with expect := true }, some 0, false⟩)) :
    Calls Try.prog 11 #[.pointer (some ⟨g, 0, none⟩), .agg #[.int .i64 ctl, .int .i64 dest, .int .i64 src, .slice A n c]] w (TakePost B g s (tk s ctl dest src) l w) := by
  have HS := Aside0.mk hs
  have k0 : ∀ o1 o2, ((w.alloc o1).alloc o2).cell? ⟨g, 0, none⟩ = some (.int .i64 s.own) := fun o1 o2 => pw_cell_below (below_alloc (below_alloc (Below.refl _ _) o1) o2) (blk_cell hs.1 0)
  have k1 : ∀ o1 o2, ((w.alloc o1).alloc o2).cell? ⟨g, 1, none⟩ = some (.int .i64 s.master) := fun o1 o2 => pw_cell_below (below_alloc (below_alloc (Below.refl _ _) o1) o2) (blk_cell hs.1 1)
  have k2 : ∀ o1 o2, ((w.alloc o1).alloc o2).cell? ⟨g, 2, none⟩ = some (.bool s.ready) := fun o1 o2 => pw_cell_below (below_alloc (below_alloc (Below.refl _ _) o1) o2) (blk_cell hs.1 2)
  have k3 : ∀ o1 o2, ((w.alloc o1).alloc o2).cell? ⟨g, 3, none⟩ = some (.bool s.expect) := fun o1 o2 => pw_cell_below (below_alloc (below_alloc (Below.refl _ _) o1) o2) (blk_cell hs.1 3)
  have HS2 : ∀ o1 o2 n, IsSt B (((w.alloc o1).alloc o2).drewN n) g s := fun o1 o2 n => (HS.out.below (below_alloc (below_alloc (Below.refl _ _) _) _)).drewN n
  clear hs
  have fr2 := fun o1 o2 => blk_frozen (blk_below HS.out.1 (below_alloc (below_alloc (Below.refl w.heap.size w) o1) o2)) 2
  have fr3 := fun o1 o2 => blk_frozen (blk_below HS.out.1 (below_alloc (below_alloc (Below.refl w.heap.size w) o1) o2)) 3
  have hlt := HS.out.lt
  rw [er] at k2
  rw [ep] at k3
  go_enter Try.func11, Try.ntmps11
  go_wp2
  go_quiet (fail)
  go_wp2
  go_quiet (fail)
  go_wp2_with fail
  (with_reducible refine (answer_any B g { s with expect := true } 0 _ ((HS2 _ _ _).flag true)).mono ?_)
  rintro _ w5 ⟨rfl, hb5⟩
  have h5 := blk_below ((Below.heap_setCell _ _ _ _ (show w.heap.size + 1 ≠ g by omega)).trans (heap_twoN w _ _ _)) hb5
  have c50 := blk_cell h5 0
  have c51 := blk_cell h5 1
  have c52 := blk_cell h5 2
  have c53 := blk_cell h5 3
  have f50 := blk_frozen h5 0
  have f51 := blk_frozen h5 1
  have f52 := blk_frozen h5 2
  have f53 := blk_frozen h5 3
  simp only [List.getElem?_toArray, List.getElem?_cons_zero, List.getElem?_cons_succ] at c50 c51 c52 c53
  have H5 := Aside0.mk h5
  have HB5 := Aside0.mk hb5
  clear h5 hb5
  go_wp2
  refine bodyPost_ret (results_cttt (p := 4) (u := 5) (v := 6) (x := 7) rfl _ _ (w.heap.size + 1) 29 #[.int .i64 0, .int .i64 s.master, .int .i64 s.own, .slice none 0 0] (0, 0) _ rfl (set_four H5.out _ _ _ _) Try.underlying29 rfl (by kernel_rfl)) rfl ⟨.slice none 0 0, by rw [ht.out]; rfl, ?_, ?_, ?_⟩
  · rw [ht.out]; exact own_nil _ _ _ _
  · rw [ht.out]; exact ⟨keep_four (blk_below ((HS2 _ _ _).flag true).1 HB5.out) (by have := HS.out.lt; omega) _ _ _ _, HS.out.2⟩
  · exact ((((((Chg.refl g w).alloc _).alloc _).drewN _).set 3 _).then_below HB5.out).four (Nat.le_succ _) _ _ _ _
set_option maxHeartbeats 2000000 in
set_option maxRecDepth 100000 in
theorem take_plain (B g : Nat) (s : St) (ctl dest src : Int) (A : Option Addr) (n c : Nat) (l : List Int) (w : World) (hs : IsSt B w g s) (e1 : (dest != s.own) = false) (e2 : (src != s.master) = false) (e3 : (bits .and .i64 ctl 128 == 0) = false) (e4 : (bits .and .i64 ctl 64 == 0) = false) (e5 : (bits .and .i64 ctl 16 != 0) = false) (e6 : (bits .and .i64 ctl 15 == 2) = false) (e7 : (bits .and .i64 ctl 15 == 3) = false) (e8 : (bits .and .i64 ctl 15 == 0) = false) (e9 : (bits .and .i64 ctl 15 == 4) = true) (HR : Aside0 (∀ w1, Chg g w w1 → ReadsInt w1 .u8 A n l)) (hsz : n ≤ 140737488355328) (ht : Aside0 (tk s ctl dest src = ⟨s, none, true⟩)) :
    Calls Try.prog 11 #[.pointer (some ⟨g, 0, none⟩), .agg #[.int .i64 ctl, .int .i64 dest, .int .i64 src, .slice A n c]] w (TakePost B g s (tk s ctl dest src) l w) := by
  have HS := Aside0.mk hs
  have k0 : ∀ o1 o2, ((w.alloc o1).alloc o2).cell? ⟨g, 0, none⟩ = some (.int .i64 s.own) := fun o1 o2 => pw_cell_below (below_alloc (below_alloc (Below.refl _ _) o1) o2) (blk_cell hs.1 0)
  have k1 : ∀ o1 o2, ((w.alloc o1).alloc o2).cell? ⟨g, 1, none⟩ = some (.int .i64 s.master) := fun o1 o2 => pw_cell_below (below_alloc (below_alloc (Below.refl _ _) o1) o2) (blk_cell hs.1 1)
  have k2 : ∀ o1 o2, ((w.alloc o1).alloc o2).cell? ⟨g, 2, none⟩ = some (.bool s.ready) := fun o1 o2 => pw_cell_below (below_alloc (below_alloc (Below.refl _ _) o1) o2) (blk_cell hs.1 2)
  have k3 : ∀ o1 o2, ((w.alloc o1).alloc o2).cell? ⟨g, 3, none⟩ = some (.bool s.expect) := fun o1 o2 => pw_cell_below (below_alloc (below_alloc (Below.refl _ _) o1) o2) (blk_cell hs.1 3)
  have HS2 : ∀ o1 o2 n, IsSt B (((w.alloc o1).alloc o2).drewN n) g s := fun o1 o2 n => (HS.out.below (below_alloc (below_alloc (Below.refl _ _) _) _)).drewN n
  clear hs
  have fr2 := fun o1 o2 => blk_frozen (blk_below HS.out.1 (below_alloc (below_alloc (Below.refl w.heap.size w) o1) o2)) 2
  have fr3 := fun o1 o2 => blk_frozen (blk_below HS.out.1 (below_alloc (below_alloc (Below.refl w.heap.size w) o1) o2)) 3
  have hlt := HS.out.lt
  go_enter Try.func11, Try.ntmps11
  go_wp2
  go_quiet (fail)
  go_wp2_with fail
  (with_reducible refine (clone_any A n c l _ (HR.out _ ((((Chg.refl g w).alloc _).alloc _).drewN _)) hsz).mono ?_)
  rintro _ w5 ⟨v5, rfl, ho5, hb5⟩
  have h5 := blk_below (heap_twoN w _ _ _) hb5
  have c50 := blk_cell h5 0
  have c51 := blk_cell h5 1
  have c52 := blk_cell h5 2
  have c53 := blk_cell h5 3
  have f50 := blk_frozen h5 0
  have f51 := blk_frozen h5 1
  have f52 := blk_frozen h5 2
  have f53 := blk_frozen h5 3
  simp only [List.getElem?_toArray, List.getElem?_cons_zero, List.getElem?_cons_succ] at c50 c51 c52 c53
  have H5 := Aside0.mk h5
  have HB5 := Aside0.mk hb5
  clear h5 hb5
  have HO5 := Aside0.mk ho5
  clear ho5
  go_wp2
  refine bodyPost_ret (results_cttt (p := 4) (u := 5) (v := 6) (x := 7) rfl _ _ (w.heap.size + 1) 29 #[.int .i64 0, .int .i64 0, .int .i64 0, .slice none 0 0] (0, 0) _ rfl (set_four H5.out _ _ _ _) Try.underlying29 rfl (by kernel_rfl)) rfl ⟨v5, by rw [ht.out]; rfl, ?_, ?_, ?_⟩
  · rw [ht.out]; exact own_four HO5.out H5.out (by decide) _ _ _ _ (by simp; omega)
  · rw [ht.out]; exact ⟨keep_four (blk_below (HS2 _ _ _).1 HB5.out) (by omega) _ _ _ _, HS.out.2⟩
  · exact (((((Chg.refl g w).alloc _).alloc _).drewN _).then_below HB5.out).four (Nat.le_succ _) _ _ _ _
def cellOf (w : World) (p : Addr) : Value := (w.cell? p).getD undef
/-- In the region that answers and clones: nothing but the answer's own variable turns. -/
def Held21 (k : Nat) (W w' : World) : Prop := Chg k W w' ∧ ∃ x0 x1 x2 x3, w'.heap[k]? = some (.cells #[x0, x1, x2, x3] 29 (0, 0))
theorem Held21.below {k : Nat} {W a b : World} (h : Held21 k W a) (hb : Below a.heap.size a b) : Held21 k W b := by
  obtain ⟨h1, x0, x1, x2, x3, h2⟩ := h
  exact ⟨h1.then_below hb, x0, x1, x2, x3, blk_below h2 hb⟩
theorem Held21.four {k : Nat} {W a : World} (h : Held21 k W a) (y0 y1 y2 y3 : Value) : Held21 k W ((((a.setCell ⟨k, 0, none⟩ y0).setCell ⟨k, 1, none⟩ y1).setCell ⟨k, 2, none⟩ y2).setCell ⟨k, 3, none⟩ y3) := by
  obtain ⟨h1, x0, x1, x2, x3, h2⟩ := h
  exact ⟨(((h1.set 0 y0).set 1 y1).set 2 y2).set 3 y3, _, _, _, _, set_four h2 y0 y1 y2 y3⟩
theorem cell_some {w : World} {g i : Nat} {t : TypeId} {cs : Array Value} (h : w.heap[g]? = some (.cells cs t (0, 0))) (hi : i < cs.size) : w.cell? ⟨g, i, none⟩ = some (cellOf w ⟨g, i, none⟩) := by
  have e := blk_cell h i
  unfold cellOf
  rw [e, Array.getElem?_eq_getElem hi]; rfl
theorem facts21 {d k : Nat} {W w' : World} {ctl dest src : Int} {A : Option Addr} {n c : Nat} (hf : W.heap[d]? = some (.cells #[.int .i64 ctl, .int .i64 dest, .int .i64 src, .slice A n c] 29 (0, 0))) (hd : d ≠ k)
    (h : Held21 k W w') :
    Aside0 (Held21 k W w') ∧ w'.cell? ⟨d, 3, none⟩ = some (.slice A n c) ∧ w'.cell? ⟨k, 0, none⟩ = some (cellOf w' ⟨k, 0, none⟩) ∧ w'.cell? ⟨k, 1, none⟩ = some (cellOf w' ⟨k, 1, none⟩) ∧ w'.cell? ⟨k, 2, none⟩ = some (cellOf w' ⟨k, 2, none⟩) ∧ w'.cell? ⟨k, 3, none⟩ = some (cellOf w' ⟨k, 3, none⟩) ∧ w'.frozen? ⟨k, 0, none⟩ = false ∧ w'.frozen? ⟨k, 1, none⟩ = false ∧ w'.frozen? ⟨k, 2, none⟩ = false ∧ w'.frozen? ⟨k, 3, none⟩ = false := by
  have H := Aside0.mk h
  obtain ⟨h1, x0, x1, x2, x3, h2⟩ := h
  have h3 := (h1.block d (blk_lt hf) hd).trans hf
  exact ⟨H, blk_cell h3 3, cell_some h2 (by simp), cell_some h2 (by simp), cell_some h2 (by simp), cell_some h2 (by simp), blk_frozen h2 0, blk_frozen h2 1, blk_frozen h2 2, blk_frozen h2 3⟩
theorem next21 {k : Nat} {W w4 w5 : World} {q : Prop} (h : Aside0 (Held21 k W w4) ∧ q) (hb : Below w4.heap.size w4 w5) : Aside0 (Held21 k W w5) := Aside0.mk (h.1.out.below hb)
theorem state21 {B g k : Nat} {s : St} {W w4 : World} {q : Prop} (hs : IsSt B W g s) (hk : g ≠ k) (h : Aside0 (Held21 k W w4) ∧ q) : IsSt B w4 g s := hs.other h.1.out.1 hk
theorem chg_new {g k : Nat} {w W w4 : World} (h : Chg g w W) (hk : w.heap.size ≤ k) (h4 : Chg k W w4) : Chg g w w4 :=
  ⟨h4.os.trans h.os, h4.tape.trans h.tape, h4.output.trans h.output, Nat.le_trans h.size h4.size, fun i hi hg => (h4.block i (Nat.lt_of_lt_of_le hi h.size) (by omega)).trans (h.block i hi hg)⟩
theorem reads21 {g n k : Nat} {A : Option Addr} {l : List Int} {w W w4 : World} {q : Prop} (hr : ∀ w1, Chg g w w1 → ReadsInt w1 .u8 A n l) (hc : Chg g w W) (hk : w.heap.size ≤ k) (h : Aside0 (Held21 k W w4) ∧ q) : ReadsInt w4 .u8 A n l := hr _ (chg_new hc hk h.1.out.1)
set_option maxHeartbeats 4000000 in
set_option maxRecDepth 100000 in
theorem take_tog3true (B g : Nat) (s : St) (ctl dest src : Int) (A : Option Addr) (n c : Nat) (l : List Int) (w : World) (hs : IsSt B w g s) (e1 : (dest != s.own) = false) (e2 : (src != s.master) = false) (e3 : (bits .and .i64 ctl 128 == 0) = false) (e4 : (bits .and .i64 ctl 64 == 0) = false) (e5 : (bits .and .i64 ctl 16 != 0) = true) (e6 : (bits .and .i64 ctl 15 == 2) = false) (e7 : (bits .and .i64 ctl 15 == 3) = true) (e8 : (bits .and .i64 ctl 15 == 0) = false) (er : s.ready = true) (ef : (bits .and .i64 ctl 32 != 0) = true) (ep : s.expect = true) (HR : Aside0 (∀ w1, Chg g w w1 → ReadsInt w1 .u8 A n l)) (hsz : n ≤ 140737488355328) (ht : Aside0 (tk s ctl dest src = ⟨{ s with expect := false }, some 0, true⟩)) :
    Calls Try.prog 11 #[.pointer (some ⟨g, 0, none⟩), .agg #[.int .i64 ctl, .int .i64 dest, .int .i64 src, .slice A n c]] w (TakePost B g s (tk s ctl dest src) l w) := by
  have HS := Aside0.mk hs
  have k0 : ∀ o1 o2, ((w.alloc o1).alloc o2).cell? ⟨g, 0, none⟩ = some (.int .i64 s.own) := fun o1 o2 => pw_cell_below (below_alloc (below_alloc (Below.refl _ _) o1) o2) (blk_cell hs.1 0)
  have k1 : ∀ o1 o2, ((w.alloc o1).alloc o2).cell? ⟨g, 1, none⟩ = some (.int .i64 s.master) := fun o1 o2 => pw_cell_below (below_alloc (below_alloc (Below.refl _ _) o1) o2) (blk_cell hs.1 1)
  have k2 : ∀ o1 o2, ((w.alloc o1).alloc o2).cell? ⟨g, 2, none⟩ = some (.bool s.ready) := fun o1 o2 => pw_cell_below (below_alloc (below_alloc (Below.refl _ _) o1) o2) (blk_cell hs.1 2)
  have k3 : ∀ o1 o2, ((w.alloc o1).alloc o2).cell? ⟨g, 3, none⟩ = some (.bool s.expect) := fun o1 o2 => pw_cell_below (below_alloc (below_alloc (Below.refl _ _) o1) o2) (blk_cell hs.1 3)
  have HS2 : ∀ o1 o2 n, IsSt B (((w.alloc o1).alloc o2).drewN n) g s := fun o1 o2 n => (HS.out.below (below_alloc (below_alloc (Below.refl _ _) _) _)).drewN n
  clear hs
  have fr2 := fun o1 o2 => blk_frozen (blk_below HS.out.1 (below_alloc (below_alloc (Below.refl w.heap.size w) o1) o2)) 2
  have fr3 := fun o1 o2 => blk_frozen (blk_below HS.out.1 (below_alloc (below_alloc (Below.refl w.heap.size w) o1) o2)) 3
  have hlt := HS.out.lt
  rw [er] at k2
  rw [ep] at k3
  go_enter Try.func11, Try.ntmps11
  go_wp2
  go_quiet (fail)
  go_wp2
  go_quiet (fail)
  go_wp2
  generalize hW : (((w.alloc _).alloc _).drewN _).setCell _ _ = W
  have hz : W.heap[w.heap.size + 1]? = some (.cells #[.int .i64 0, .int .i64 0, .int .i64 0, .slice none 0 0] 29 (0, 0)) := by
    rw [← hW]; exact (Below.heap_setCell _ _ _ _ (show w.heap.size + 1 ≠ g by omega)).trans (heap_twoN w _ _ _)
  have hf : W.heap[w.heap.size]? = some (.cells #[.int .i64 ctl, .int .i64 dest, .int .i64 src, .slice A n c] 29 (0, 0)) := by
    rw [← hW]; exact (Below.heap_setCell _ _ _ _ (show w.heap.size ≠ g by omega)).trans ((Below.heap_alloc (w.alloc _) _ _ (by simp)).trans (heap_alloc_new w _))
  have hsW : IsSt B W g { s with expect := false } := by rw [← hW]; exact (HS2 _ _ _).flag false
  have hcW : Chg g w W := by rw [← hW]; exact ((((Chg.refl g w).alloc _).alloc _).drewN _).set 3 _
  have HsW := Aside0.mk hsW
  have HcW := Aside0.mk hcW
  have Hf := Aside0.mk hf
  have Hz := Aside0.mk hz
  have hsz1 : w.heap.size + 1 < W.heap.size := blk_lt hz
  clear hsW hcW hf hz hW k0 k1 k2 k3 HS2 fr2 fr3
  have hz1 : Held21 (w.heap.size + 1) W W := ⟨Chg.refl _ _, _, _, _, _, Hz.out⟩
  have hz2 : Held21 (w.heap.size + 1) W W.drew := ⟨(Chg.refl _ _).drewN 1, _, _, _, _, Hz.out⟩
  have HZ1 := Aside0.mk hz1
  have HZ2 := Aside0.mk hz2
  have hgk : g ≠ w.heap.size + 1 := by omega
  have hdk : w.heap.size ≠ w.heap.size + 1 := by omega
  clear hz1 hz2
  go_region_held3 (fun w' => Aside0 (Held21 (w.heap.size + 1) W w') ∧ w'.cell? ⟨w.heap.size, 3, none⟩ = some (.slice A n c) ∧ w'.cell? ⟨w.heap.size + 1, 0, none⟩ = some (cellOf w' ⟨w.heap.size + 1, 0, none⟩) ∧ w'.cell? ⟨w.heap.size + 1, 1, none⟩ = some (cellOf w' ⟨w.heap.size + 1, 1, none⟩) ∧ w'.cell? ⟨w.heap.size + 1, 2, none⟩ = some (cellOf w' ⟨w.heap.size + 1, 2, none⟩) ∧ w'.cell? ⟨w.heap.size + 1, 3, none⟩ = some (cellOf w' ⟨w.heap.size + 1, 3, none⟩) ∧ w'.frozen? ⟨w.heap.size + 1, 0, none⟩ = false ∧ w'.frozen? ⟨w.heap.size + 1, 1, none⟩ = false ∧ w'.frozen? ⟨w.heap.size + 1, 2, none⟩ = false ∧ w'.frozen? ⟨w.heap.size + 1, 3, none⟩ = false)
    (first
      | exact facts21 Hf.out hdk HZ1.out
      | exact facts21 Hf.out hdk HZ2.out
      | exact facts21 Hf.out hdk (Aside0.out (by assumption))
      | exact facts21 Hf.out hdk (Held21.four (Aside0.out (by assumption)) _ _ _ _))
    (first
      | (go_at_call 24; (with_reducible refine (answer_any B g { s with expect := false } 0 _ ?_).mono ?_); (exact state21 HsW.out hgk (by assumption)); rintro e w5 ⟨rfl, hb5⟩; have hb6 : Aside0 (Held21 (w.heap.size + 1) W w5) := next21 (by assumption) hb5)
      | (go_at_call 25; (with_reducible refine (clone_any A n c l _ ?_ hsz).mono ?_); (exact reads21 HR.out HcW.out (Nat.le_succ _) (by assumption)); rintro e w6 ⟨v6, rfl, ho6, hb7⟩; have hb8 : Aside0 (Held21 (w.heap.size + 1) W w6) := next21 (by assumption) hb7; have HO6 := Aside0.mk ho6; clear ho6))
  go_wp2
  obtain ⟨hq6, x0, x1, x2, x3, hz6⟩ := hb8.out
  have hs5 := hb6.out.1.size
  refine bodyPost_ret (results_cttt (p := 4) (u := 5) (v := 6) (x := 7) rfl _ _ (w.heap.size + 1) 29 #[.int .i64 0, .int .i64 s.master, .int .i64 s.own, .slice none 0 0] (0, 0) _ rfl (set_four hz6 _ _ _ _) Try.underlying29 rfl (by kernel_rfl)) rfl ⟨v6, by rw [ht.out]; rfl, ?_, ?_, ?_⟩
  · rw [ht.out]; exact own_four HO6.out hz6 (by decide) _ _ _ _ (by omega)
  · rw [ht.out]; exact ⟨keep_four (HsW.out.other hq6 hgk).1 hgk _ _ _ _, HS.out.2⟩
  · exact (chg_new HcW.out (Nat.le_succ _) hq6).four (Nat.le_succ _) _ _ _ _
set_option maxHeartbeats 4000000 in
set_option maxRecDepth 100000 in
theorem take_tog3false (B g : Nat) (s : St) (ctl dest src : Int) (A : Option Addr) (n c : Nat) (l : List Int) (w : World) (hs : IsSt B w g s) (e1 : (dest != s.own) = false) (e2 : (src != s.master) = false) (e3 : (bits .and .i64 ctl 128 == 0) = false) (e4 : (bits .and .i64 ctl 64 == 0) = false) (e5 : (bits .and .i64 ctl 16 != 0) = true) (e6 : (bits .and .i64 ctl 15 == 2) = false) (e7 : (bits .and .i64 ctl 15 == 3) = true) (e8 : (bits .and .i64 ctl 15 == 0) = false) (er : s.ready = true) (ef : (bits .and .i64 ctl 32 != 0) = false) (ep : s.expect = false) (HR : Aside0 (∀ w1, Chg g w w1 → ReadsInt w1 .u8 A n l)) (hsz : n ≤ 140737488355328) (ht : Aside0 (tk s ctl dest src = ⟨{ s with expect := true }, some 0, true⟩)) :
    Calls Try.prog 11 #[.pointer (some ⟨g, 0, none⟩), .agg #[.int .i64 ctl, .int .i64 dest, .int .i64 src, .slice A n c]] w (TakePost B g s (tk s ctl dest src) l w) := by
  have HS := Aside0.mk hs
  have k0 : ∀ o1 o2, ((w.alloc o1).alloc o2).cell? ⟨g, 0, none⟩ = some (.int .i64 s.own) := fun o1 o2 => pw_cell_below (below_alloc (below_alloc (Below.refl _ _) o1) o2) (blk_cell hs.1 0)
  have k1 : ∀ o1 o2, ((w.alloc o1).alloc o2).cell? ⟨g, 1, none⟩ = some (.int .i64 s.master) := fun o1 o2 => pw_cell_below (below_alloc (below_alloc (Below.refl _ _) o1) o2) (blk_cell hs.1 1)
  have k2 : ∀ o1 o2, ((w.alloc o1).alloc o2).cell? ⟨g, 2, none⟩ = some (.bool s.ready) := fun o1 o2 => pw_cell_below (below_alloc (below_alloc (Below.refl _ _) o1) o2) (blk_cell hs.1 2)
  have k3 : ∀ o1 o2, ((w.alloc o1).alloc o2).cell? ⟨g, 3, none⟩ = some (.bool s.expect) := fun o1 o2 => pw_cell_below (below_alloc (below_alloc (Below.refl _ _) o1) o2) (blk_cell hs.1 3)
  have HS2 : ∀ o1 o2 n, IsSt B (((w.alloc o1).alloc o2).drewN n) g s := fun o1 o2 n => (HS.out.below (below_alloc (below_alloc (Below.refl _ _) _) _)).drewN n
  clear hs
  have fr2 := fun o1 o2 => blk_frozen (blk_below HS.out.1 (below_alloc (below_alloc (Below.refl w.heap.size w) o1) o2)) 2
  have fr3 := fun o1 o2 => blk_frozen (blk_below HS.out.1 (below_alloc (below_alloc (Below.refl w.heap.size w) o1) o2)) 3
  have hlt := HS.out.lt
  rw [er] at k2
  rw [ep] at k3
  go_enter Try.func11, Try.ntmps11
  go_wp2
  go_quiet (fail)
  go_wp2
  go_quiet (fail)
  go_wp2
  generalize hW : (((w.alloc _).alloc _).drewN _).setCell _ _ = W
  have hz : W.heap[w.heap.size + 1]? = some (.cells #[.int .i64 0, .int .i64 0, .int .i64 0, .slice none 0 0] 29 (0, 0)) := by
    rw [← hW]; exact (Below.heap_setCell _ _ _ _ (show w.heap.size + 1 ≠ g by omega)).trans (heap_twoN w _ _ _)
  have hf : W.heap[w.heap.size]? = some (.cells #[.int .i64 ctl, .int .i64 dest, .int .i64 src, .slice A n c] 29 (0, 0)) := by
    rw [← hW]; exact (Below.heap_setCell _ _ _ _ (show w.heap.size ≠ g by omega)).trans ((Below.heap_alloc (w.alloc _) _ _ (by simp)).trans (heap_alloc_new w _))
  have hsW : IsSt B W g { s with expect := true } := by rw [← hW]; exact (HS2 _ _ _).flag true
  have hcW : Chg g w W := by rw [← hW]; exact ((((Chg.refl g w).alloc _).alloc _).drewN _).set 3 _
  have HsW := Aside0.mk hsW
  have HcW := Aside0.mk hcW
  have Hf := Aside0.mk hf
  have Hz := Aside0.mk hz
  have hsz1 : w.heap.size + 1 < W.heap.size := blk_lt hz
  clear hsW hcW hf hz hW k0 k1 k2 k3 HS2 fr2 fr3
  have hz1 : Held21 (w.heap.size + 1) W W := ⟨Chg.refl _ _, _, _, _, _, Hz.out⟩
  have hz2 : Held21 (w.heap.size + 1) W W.drew := ⟨(Chg.refl _ _).drewN 1, _, _, _, _, Hz.out⟩
  have HZ1 := Aside0.mk hz1
  have HZ2 := Aside0.mk hz2
  have hgk : g ≠ w.heap.size + 1 := by omega
  have hdk : w.heap.size ≠ w.heap.size + 1 := by omega
  clear hz1 hz2
  go_region_held3 (fun w' => Aside0 (Held21 (w.heap.size + 1) W w') ∧ w'.cell? ⟨w.heap.size, 3, none⟩ = some (.slice A n c) ∧ w'.cell? ⟨w.heap.size + 1, 0, none⟩ = some (cellOf w' ⟨w.heap.size + 1, 0, none⟩) ∧ w'.cell? ⟨w.heap.size + 1, 1, none⟩ = some (cellOf w' ⟨w.heap.size + 1, 1, none⟩) ∧ w'.cell? ⟨w.heap.size + 1, 2, none⟩ = some (cellOf w' ⟨w.heap.size + 1, 2, none⟩) ∧ w'.cell? ⟨w.heap.size + 1, 3, none⟩ = some (cellOf w' ⟨w.heap.size + 1, 3, none⟩) ∧ w'.frozen? ⟨w.heap.size + 1, 0, none⟩ = false ∧ w'.frozen? ⟨w.heap.size + 1, 1, none⟩ = false ∧ w'.frozen? ⟨w.heap.size + 1, 2, none⟩ = false ∧ w'.frozen? ⟨w.heap.size + 1, 3, none⟩ = false)
    (first
      | exact facts21 Hf.out hdk HZ1.out
      | exact facts21 Hf.out hdk HZ2.out
      | exact facts21 Hf.out hdk (Aside0.out (by assumption))
      | exact facts21 Hf.out hdk (Held21.four (Aside0.out (by assumption)) _ _ _ _))
    (first
      | (go_at_call 24; (with_reducible refine (answer_any B g { s with expect := true } 0 _ ?_).mono ?_); (exact state21 HsW.out hgk (by assumption)); rintro e w5 ⟨rfl, hb5⟩; have hb6 : Aside0 (Held21 (w.heap.size + 1) W w5) := next21 (by assumption) hb5)
      | (go_at_call 25; (with_reducible refine (clone_any A n c l _ ?_ hsz).mono ?_); (exact reads21 HR.out HcW.out (Nat.le_succ _) (by assumption)); rintro e w6 ⟨v6, rfl, ho6, hb7⟩; have hb8 : Aside0 (Held21 (w.heap.size + 1) W w6) := next21 (by assumption) hb7; have HO6 := Aside0.mk ho6; clear ho6))
  go_wp2
  obtain ⟨hq6, x0, x1, x2, x3, hz6⟩ := hb8.out
  have hs5 := hb6.out.1.size
  refine bodyPost_ret (results_cttt (p := 4) (u := 5) (v := 6) (x := 7) rfl _ _ (w.heap.size + 1) 29 #[.int .i64 0, .int .i64 s.master, .int .i64 s.own, .slice none 0 0] (0, 0) _ rfl (set_four hz6 _ _ _ _) Try.underlying29 rfl (by kernel_rfl)) rfl ⟨v6, by rw [ht.out]; rfl, ?_, ?_, ?_⟩
  · rw [ht.out]; exact own_four HO6.out hz6 (by decide) _ _ _ _ (by omega)
  · rw [ht.out]; exact ⟨keep_four (HsW.out.other hq6 hgk).1 hgk _ _ _ _, HS.out.2⟩
  · exact (chg_new HcW.out (Nat.le_succ _) hq6).four (Nat.le_succ _) _ _ _ _
end Go.Proofs.Ytpepgblmcjgbgaa
