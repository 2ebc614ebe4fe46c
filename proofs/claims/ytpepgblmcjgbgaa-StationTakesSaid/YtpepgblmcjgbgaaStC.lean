/- The secondary station: what a frame that is ours does, way by way. Conditions: bytes are bytes. -/
import Derived.Test.YtpepgblmcjgbgaaStB
namespace Go.Proofs.Ytpepgblmcjgbgaa
open Go.RowKit Go.Proofs.YtpepgblmcjgbgaaW.PrintWords
set_option linter.unusedVariables false

set_option maxHeartbeats 2000000 in
set_option maxRecDepth 100000 in
theorem take_rest (B g : Nat) (s : St) (ctl dest src : Int) (A : Option Addr) (n c : Nat) (l : List Int) (w : World) (hs : IsSt B w g s) (e1 : (dest != s.own) = false) (e2 : (src != s.master) = false) (e3 : (bits .and .i64 ctl 128 == 0) = false) (e4 : (bits .and .i64 ctl 64 == 0) = false) (e5 : (bits .and .i64 ctl 16 != 0) = false) (e6 : (bits .and .i64 ctl 15 == 2) = false) (e7 : (bits .and .i64 ctl 15 == 3) = false) (e8 : (bits .and .i64 ctl 15 == 0) = false) (e9 : (bits .and .i64 ctl 15 == 4) = false) (e10 : (bits .and .i64 ctl 15 == 9) = false) (ht : Aside0 (tk s ctl dest src = ⟨s, some 15, false⟩)) :
    Calls Try.prog 11 #[.pointer (some ⟨g, 0, none⟩), .agg #[.int .i64 ctl, .int .i64 dest, .int .i64 src, .slice A n c]] w (TakePost B g s (tk s ctl dest src) l w) := by
  have HS := Aside0.mk hs
  have k0 : ∀ o1 o2, ((w.alloc o1).alloc o2).cell? ⟨g, 0, none⟩ = some (.int .i64 s.own) := fun o1 o2 => pw_cell_below (below_alloc (below_alloc (Below.refl _ _) o1) o2) (blk_cell hs.1 0)
  have k1 : ∀ o1 o2, ((w.alloc o1).alloc o2).cell? ⟨g, 1, none⟩ = some (.int .i64 s.master) := fun o1 o2 => pw_cell_below (below_alloc (below_alloc (Below.refl _ _) o1) o2) (blk_cell hs.1 1)
  have k2 : ∀ o1 o2, ((w.alloc o1).alloc o2).cell? ⟨g, 2, none⟩ = some (.bool s.ready) := fun o1 o2 => pw_cell_below (below_alloc (below_alloc (Below.refl _ _) o1) o2) (blk_cell hs.1 2)
  have k3 : ∀ o1 o2, ((w.alloc o1).alloc o2).cell? ⟨g, 3, none⟩ = some (.bool s.expect) := fun o1 o2 => pw_cell_below (below_alloc (below_alloc (Below.refl _ _) o1) o2) (blk_cell hs.1 3)
  have HS2 : ∀ o1 o2 n, IsSt B (((w.alloc o1).alloc o2).drewN n) g s := fun o1 o2 n => (HS.out.below (below_alloc (below_alloc (Below.refl _ _) _) _)).drewN n
  clear hs
  go_enter Try.func11, Try.ntmps11
  go_wp2
  go_quiet (fail)
  go_wp2_with fail
  (with_reducible refine (answer_any B g s 15 _ (HS2 _ _ _)).mono ?_)
  rintro _ w5 ⟨rfl, hb5⟩
  have h5 := blk_below (heap_twoN w _ _ _) hb5
  have c50 := blk_cell h5 0
  have c51 := blk_cell h5 1
  have c52 := blk_cell h5 2
  have c53 := blk_cell h5 3
  have f50 := blk_frozen h5 0
  have f51 := blk_frozen h5 1
  have f52 := blk_frozen h5 2
  have f53 := blk_frozen h5 3
  simp only [List.getElem?_toArray, List.getElem?_cons_zero, List.getElem?_cons_succ] at c50 c51 c52 c53
  have H5 := Aside0.mk h5
  have HB5 := Aside0.mk hb5
  clear h5 hb5
  go_wp2
  refine bodyPost_ret (results_cttt (p := 4) (u := 5) (v := 6) (x := 7) rfl _ _ (w.heap.size + 1) 29 #[.int .i64 15, .int .i64 s.master, .int .i64 s.own, .slice none 0 0] (0, 0) _ rfl (set_four H5.out _ _ _ _) Try.underlying29 rfl (by kernel_rfl)) rfl ⟨.slice none 0 0, by rw [ht.out]; rfl, ?_, ?_, ?_⟩
  · rw [ht.out]; exact own_nil _ _ _ _
  · rw [ht.out]; exact ⟨keep_four (blk_below (HS2 _ _ _).1 HB5.out) (by have := HS.out.lt; omega) _ _ _ _, HS.out.2⟩
  · exact (((((Chg.refl g w).alloc _).alloc _).drewN _).then_below HB5.out).four (Nat.le_succ _) _ _ _ _
set_option maxHeartbeats 2000000 in
set_option maxRecDepth 100000 in
theorem take_status (B g : Nat) (s : St) (ctl dest src : Int) (A : Option Addr) (n c : Nat) (l : List Int) (w : World) (hs : IsSt B w g s) (e1 : (dest != s.own) = false) (e2 : (src != s.master) = false) (e3 : (bits .and .i64 ctl 128 == 0) = false) (e4 : (bits .and .i64 ctl 64 == 0) = false) (e5 : (bits .and .i64 ctl 16 != 0) = false) (e6 : (bits .and .i64 ctl 15 == 2) = false) (e7 : (bits .and .i64 ctl 15 == 3) = false) (e8 : (bits .and .i64 ctl 15 == 0) = false) (e9 : (bits .and .i64 ctl 15 == 4) = false) (e10 : (bits .and .i64 ctl 15 == 9) = true) (ht : Aside0 (tk s ctl dest src = ⟨s, some 11, false⟩)) :
    Calls Try.prog 11 #[.pointer (some ⟨g, 0, none⟩), .agg #[.int .i64 ctl, .int .i64 dest, .int .i64 src, .slice A n c]] w (TakePost B g s (tk s ctl dest src) l w) := by
  have HS := Aside0.mk hs
  have k0 : ∀ o1 o2, ((w.alloc o1).alloc o2).cell? ⟨g, 0, none⟩ = some (.int .i64 s.own) := fun o1 o2 => pw_cell_below (below_alloc (below_alloc (Below.refl _ _) o1) o2) (blk_cell hs.1 0)
  have k1 : ∀ o1 o2, ((w.alloc o1).alloc o2).cell? ⟨g, 1, none⟩ = some (.int .i64 s.master) := fun o1 o2 => pw_cell_below (below_alloc (below_alloc (Below.refl _ _) o1) o2) (blk_cell hs.1 1)
  have k2 : ∀ o1 o2, ((w.alloc o1).alloc o2).cell? ⟨g, 2, none⟩ = some (.bool s.ready) := fun o1 o2 => pw_cell_below (below_alloc (below_alloc (Below.refl _ _) o1) o2) (blk_cell hs.1 2)
  have k3 : ∀ o1 o2, ((w.alloc o1).alloc o2).cell? ⟨g, 3, none⟩ = some (.bool s.expect) := fun o1 o2 => pw_cell_below (below_alloc (below_alloc (Below.refl _ _) o1) o2) (blk_cell hs.1 3)
  have HS2 : ∀ o1 o2 n, IsSt B (((w.alloc o1).alloc o2).drewN n) g s := fun o1 o2 n => (HS.out.below (below_alloc (below_alloc (Below.refl _ _) _) _)).drewN n
  clear hs
  go_enter Try.func11, Try.ntmps11
  go_wp2
  go_quiet (fail)
  go_wp2_with fail
  (with_reducible refine (answer_any B g s 11 _ (HS2 _ _ _)).mono ?_)
  rintro _ w5 ⟨rfl, hb5⟩
  have h5 := blk_below (heap_twoN w _ _ _) hb5
  have c50 := blk_cell h5 0
  have c51 := blk_cell h5 1
  have c52 := blk_cell h5 2
  have c53 := blk_cell h5 3
  have f50 := blk_frozen h5 0
  have f51 := blk_frozen h5 1
  have f52 := blk_frozen h5 2
  have f53 := blk_frozen h5 3
  simp only [List.getElem?_toArray, List.getElem?_cons_zero, List.getElem?_cons_succ] at c50 c51 c52 c53
  have H5 := Aside0.mk h5
  have HB5 := Aside0.mk hb5
  clear h5 hb5
  go_wp2
  refine bodyPost_ret (results_cttt (p := 4) (u := 5) (v := 6) (x := 7) rfl _ _ (w.heap.size + 1) 29 #[.int .i64 11, .int .i64 s.master, .int .i64 s.own, .slice none 0 0] (0, 0) _ rfl (set_four H5.out _ _ _ _) Try.underlying29 rfl (by kernel_rfl)) rfl ⟨.slice none 0 0, by rw [ht.out]; rfl, ?_, ?_, ?_⟩
  · rw [ht.out]; exact own_nil _ _ _ _
  · rw [ht.out]; exact ⟨keep_four (blk_below (HS2 _ _ _).1 HB5.out) (by have := HS.out.lt; omega) _ _ _ _, HS.out.2⟩
  · exact (((((Chg.refl g w).alloc _).alloc _).drewN _).then_below HB5.out).four (Nat.le_succ _) _ _ _ _
set_option maxHeartbeats 2000000 in
set_option maxRecDepth 100000 in
theorem take_nack2 (B g : Nat) (s : St) (ctl dest src : Int) (A : Option Addr) (n c : Nat) (l : List Int) (w : World) (hs : IsSt B w g s) (e1 : (dest != s.own) = false) (e2 : (src != s.master) = false) (e3 : (bits .and .i64 ctl 128 == 0) = false) (e4 : (bits .and .i64 ctl 64 == 0) = false) (e5 : (bits .and .i64 ctl 16 != 0) = true) (e6 : (bits .and .i64 ctl 15 == 2) = true) (e7 : (bits .and .i64 ctl 15 == 3) = false) (e8 : (bits .and .i64 ctl 15 == 0) = false) (er : s.ready = false) (ht : Aside0 (tk s ctl dest src = ⟨s, some 1, false⟩)) :
    Calls Try.prog 11 #[.pointer (some ⟨g, 0, none⟩), .agg #[.int .i64 ctl, .int .i64 dest, .int .i64 src, .slice A n c]] w (TakePost B g s (tk s ctl dest src) l w) := by
  have HS := Aside0.mk hs
  have k0 : ∀ o1 o2, ((w.alloc o1).alloc o2).cell? ⟨g, 0, none⟩ = some (.int .i64 s.own) := fun o1 o2 => pw_cell_below (below_alloc (below_alloc (Below.refl _ _) o1) o2) (blk_cell hs.1 0)
  have k1 : ∀ o1 o2, ((w.alloc o1).alloc o2).cell? ⟨g, 1, none⟩ = some (.int .i64 s.master) := fun o1 o2 => pw_cell_below (below_alloc (below_alloc (Below.refl _ _) o1) o2) (blk_cell hs.1 1)
  have k2 : ∀ o1 o2, ((w.alloc o1).alloc o2).cell? ⟨g, 2, none⟩ = some (.bool s.ready) := fun o1 o2 => pw_cell_below (below_alloc (below_alloc (Below.refl _ _) o1) o2) (blk_cell hs.1 2)
  have k3 : ∀ o1 o2, ((w.alloc o1).alloc o2).cell? ⟨g, 3, none⟩ = some (.bool s.expect) := fun o1 o2 => pw_cell_below (below_alloc (below_alloc (Below.refl _ _) o1) o2) (blk_cell hs.1 3)
  have HS2 : ∀ o1 o2 n, IsSt B (((w.alloc o1).alloc o2).drewN n) g s := fun o1 o2 n => (HS.out.below (below_alloc (below_alloc (Below.refl _ _) _) _)).drewN n
  clear hs
  rw [er] at k2
  go_enter Try.func11, Try.ntmps11
  go_wp2
  go_quiet (fail)
  go_wp2_with fail
  (with_reducible refine (answer_any B g s 1 _ (HS2 _ _ _)).mono ?_)
  rintro _ w5 ⟨rfl, hb5⟩
  have h5 := blk_below (heap_twoN w _ _ _) hb5
  have c50 := blk_cell h5 0
  have c51 := blk_cell h5 1
  have c52 := blk_cell h5 2
  have c53 := blk_cell h5 3
  have f50 := blk_frozen h5 0
  have f51 := blk_frozen h5 1
  have f52 := blk_frozen h5 2
  have f53 := blk_frozen h5 3
  simp only [List.getElem?_toArray, List.getElem?_cons_zero, List.getElem?_cons_succ] at c50 c51 c52 c53
  have H5 := Aside0.mk h5
  have HB5 := Aside0.mk hb5
  clear h5 hb5
  go_wp2
  refine bodyPost_ret (results_cttt (p := 4) (u := 5) (v := 6) (x := 7) rfl _ _ (w.heap.size + 1) 29 #[.int .i64 1, .int .i64 s.master, .int .i64 s.own, .slice none 0 0] (0, 0) _ rfl (set_four H5.out _ _ _ _) Try.underlying29 rfl (by kernel_rfl)) rfl ⟨.slice none 0 0, by rw [ht.out]; rfl, ?_, ?_, ?_⟩
  · rw [ht.out]; exact own_nil _ _ _ _
  · rw [ht.out]; exact ⟨keep_four (blk_below (HS2 _ _ _).1 HB5.out) (by have := HS.out.lt; omega) _ _ _ _, HS.out.2⟩
  · exact (((((Chg.refl g w).alloc _).alloc _).drewN _).then_below HB5.out).four (Nat.le_succ _) _ _ _ _
set_option maxHeartbeats 2000000 in
set_option maxRecDepth 100000 in
theorem take_again2 (B g : Nat) (s : St) (ctl dest src : Int) (A : Option Addr) (n c : Nat) (l : List Int) (w : World) (hs : IsSt B w g s) (e1 : (dest != s.own) = false) (e2 : (src != s.master) = false) (e3 : (bits .and .i64 ctl 128 == 0) = false) (e4 : (bits .and .i64 ctl 64 == 0) = false) (e5 : (bits .and .i64 ctl 16 != 0) = true) (e6 : (bits .and .i64 ctl 15 == 2) = true) (e7 : (bits .and .i64 ctl 15 == 3) = false) (e8 : (bits .and .i64 ctl 15 == 0) = false) (er : s.ready = true) (ex : ((bits .and .i64 ctl 32 != 0) != s.expect) = true) (ht : Aside0 (tk s ctl dest src = ⟨s, some 0, false⟩)) :
    Calls Try.prog 11 #[.pointer (some ⟨g, 0, none⟩), .agg #[.int .i64 ctl, .int .i64 dest, .int .i64 src, .slice A n c]] w (TakePost B g s (tk s ctl dest src) l w) := by
  have HS := Aside0.mk hs
  have k0 : ∀ o1 o2, ((w.alloc o1).alloc o2).cell? ⟨g, 0, none⟩ = some (.int .i64 s.own) := fun o1 o2 => pw_cell_below (below_alloc (below_alloc (Below.refl _ _) o1) o2) (blk_cell hs.1 0)
  have k1 : ∀ o1 o2, ((w.alloc o1).alloc o2).cell? ⟨g, 1, none⟩ = some (.int .i64 s.master) := fun o1 o2 => pw_cell_below (below_alloc (below_alloc (Below.refl _ _) o1) o2) (blk_cell hs.1 1)
  have k2 : ∀ o1 o2, ((w.alloc o1).alloc o2).cell? ⟨g, 2, none⟩ = some (.bool s.ready) := fun o1 o2 => pw_cell_below (below_alloc (below_alloc (Below.refl _ _) o1) o2) (blk_cell hs.1 2)
  have k3 : ∀ o1 o2, ((w.alloc o1).alloc o2).cell? ⟨g, 3, none⟩ = some (.bool s.expect) := fun o1 o2 => pw_cell_below (below_alloc (below_alloc (Below.refl _ _) o1) o2) (blk_cell hs.1 3)
  have HS2 : ∀ o1 o2 n, IsSt B (((w.alloc o1).alloc o2).drewN n) g s := fun o1 o2 n => (HS.out.below (below_alloc (below_alloc (Below.refl _ _) _) _)).drewN n
  clear hs
  rw [er] at k2
  cases ef : (bits .and .i64 ctl 32 != 0) <;> cases ep : s.expect
  all_goals rw [ef, ep] at ex
  all_goals first | exact absurd ex (by decide) | skip
  all_goals
    rw [ep] at k3
    go_enter Try.func11, Try.ntmps11
    go_wp2
    go_quiet (fail)
    go_wp2
    go_quiet (fail)
    go_wp2_with fail
    (with_reducible refine (answer_any B g s 0 _ (HS2 _ _ _)).mono ?_)
    rintro _ w5 ⟨rfl, hb5⟩
    have h5 := blk_below (heap_twoN w _ _ _) hb5
    have c50 := blk_cell h5 0
    have c51 := blk_cell h5 1
    have c52 := blk_cell h5 2
    have c53 := blk_cell h5 3
    have f50 := blk_frozen h5 0
    have f51 := blk_frozen h5 1
    have f52 := blk_frozen h5 2
    have f53 := blk_frozen h5 3
    simp only [List.getElem?_toArray, List.getElem?_cons_zero, List.getElem?_cons_succ] at c50 c51 c52 c53
    have H5 := Aside0.mk h5
    have HB5 := Aside0.mk hb5
    clear h5 hb5
    go_wp2
    refine bodyPost_ret (results_cttt (p := 4) (u := 5) (v := 6) (x := 7) rfl _ _ (w.heap.size + 1) 29 #[.int .i64 0, .int .i64 s.master, .int .i64 s.own, .slice none 0 0] (0, 0) _ rfl (set_four H5.out _ _ _ _) Try.underlying29 rfl (by kernel_rfl)) rfl ⟨.slice none 0 0, by rw [ht.out]; rfl, ?_, ?_, ?_⟩
    · rw [ht.out]; exact own_nil _ _ _ _
    · rw [ht.out]; exact ⟨keep_four (blk_below (HS2 _ _ _).1 HB5.out) (by have := HS.out.lt; omega) _ _ _ _, HS.out.2⟩
    · exact (((((Chg.refl g w).alloc _).alloc _).drewN _).then_below HB5.out).four (Nat.le_succ _) _ _ _ _
set_option maxHeartbeats 2000000 in
set_option maxRecDepth 100000 in
theorem take_nack3 (B g : Nat) (s : St) (ctl dest src : Int) (A : Option Addr) (n c : Nat) (l : List Int) (w : World) (hs : IsSt B w g s) (e1 : (dest != s.own) = false) (e2 : (src != s.master) = false) (e3 : (bits .and .i64 ctl 128 == 0) = false) (e4 : (bits .and .i64 ctl 64 == 0) = false) (e5 : (bits .and .i64 ctl 16 != 0) = true) (e6 : (bits .and .i64 ctl 15 == 2) = false) (e7 : (bits .and .i64 ctl 15 == 3) = true) (e8 : (bits .and .i64 ctl 15 == 0) = false) (er : s.ready = false) (ht : Aside0 (tk s ctl dest src = ⟨s, some 1, false⟩)) :
    Calls Try.prog 11 #[.pointer (some ⟨g, 0, none⟩), .agg #[.int .i64 ctl, .int .i64 dest, .int .i64 src, .slice A n c]] w (TakePost B g s (tk s ctl dest src) l w) := by
  have HS := Aside0.mk hs
  have k0 : ∀ o1 o2, ((w.alloc o1).alloc o2).cell? ⟨g, 0, none⟩ = some (.int .i64 s.own) := fun o1 o2 => pw_cell_below (below_alloc (below_alloc (Below.refl _ _) o1) o2) (blk_cell hs.1 0)
  have k1 : ∀ o1 o2, ((w.alloc o1).alloc o2).cell? ⟨g, 1, none⟩ = some (.int .i64 s.master) := fun o1 o2 => pw_cell_below (below_alloc (below_alloc (Below.refl _ _) o1) o2) (blk_cell hs.1 1)
  have k2 : ∀ o1 o2, ((w.alloc o1).alloc o2).cell? ⟨g, 2, none⟩ = some (.bool s.ready) := fun o1 o2 => pw_cell_below (below_alloc (below_alloc (Below.refl _ _) o1) o2) (blk_cell hs.1 2)
  have k3 : ∀ o1 o2, ((w.alloc o1).alloc o2).cell? ⟨g, 3, none⟩ = some (.bool s.expect) := fun o1 o2 => pw_cell_below (below_alloc (below_alloc (Below.refl _ _) o1) o2) (blk_cell hs.1 3)
  have HS2 : ∀ o1 o2 n, IsSt B (((w.alloc o1).alloc o2).drewN n) g s := fun o1 o2 n => (HS.out.below (below_alloc (below_alloc (Below.refl _ _) _) _)).drewN n
  clear hs
  rw [er] at k2
  go_enter Try.func11, Try.ntmps11
  go_wp2
  go_quiet (fail)
  go_wp2_with fail
  (with_reducible refine (answer_any B g s 1 _ (HS2 _ _ _)).mono ?_)
  rintro _ w5 ⟨rfl, hb5⟩
  have h5 := blk_below (heap_twoN w _ _ _) hb5
  have c50 := blk_cell h5 0
  have c51 := blk_cell h5 1
  have c52 := blk_cell h5 2
  have c53 := blk_cell h5 3
  have f50 := blk_frozen h5 0
  have f51 := blk_frozen h5 1
  have f52 := blk_frozen h5 2
  have f53 := blk_frozen h5 3
  simp only [List.getElem?_toArray, List.getElem?_cons_zero, List.getElem?_cons_succ] at c50 c51 c52 c53
  have H5 := Aside0.mk h5
  have HB5 := Aside0.mk hb5
  clear h5 hb5
  go_wp2
  refine bodyPost_ret (results_cttt (p := 4) (u := 5) (v := 6) (x := 7) rfl _ _ (w.heap.size + 1) 29 #[.int .i64 1, .int .i64 s.master, .int .i64 s.own, .slice none 0 0] (0, 0) _ rfl (set_four H5.out _ _ _ _) Try.underlying29 rfl (by kernel_rfl)) rfl ⟨.slice none 0 0, by rw [ht.out]; rfl, ?_, ?_, ?_⟩
  · rw [ht.out]; exact own_nil _ _ _ _
  · rw [ht.out]; exact ⟨keep_four (blk_below (HS2 _ _ _).1 HB5.out) (by have := HS.out.lt; omega) _ _ _ _, HS.out.2⟩
  · exact (((((Chg.refl g w).alloc _).alloc _).drewN _).then_below HB5.out).four (Nat.le_succ _) _ _ _ _
set_option maxHeartbeats 2000000 in
set_option maxRecDepth 100000 in
theorem take_again3 (B g : Nat) (s : St) (ctl dest src : Int) (A : Option Addr) (n c : Nat) (l : List Int) (w : World) (hs : IsSt B w g s) (e1 : (dest != s.own) = false) (e2 : (src != s.master) = false) (e3 : (bits .and .i64 ctl 128 == 0) = false) (e4 : (bits .and .i64 ctl 64 == 0) = false) (e5 : (bits .and .i64 ctl 16 != 0) = true) (e6 : (bits .and .i64 ctl 15 == 2) = false) (e7 : (bits .and .i64 ctl 15 == 3) = true) (e8 : (bits .and .i64 ctl 15 == 0) = false) (er : s.ready = true) (ex : ((bits .and .i64 ctl 32 != 0) != s.expect) = true) (ht : Aside0 (tk s ctl dest src = ⟨s, some 0, false⟩)) :
    Calls Try.prog 11 #[.pointer (some ⟨g, 0, none⟩), .agg #[.int .i64 ctl, .int .i64 dest, .int .i64 src, .slice A n c]] w (TakePost B g s (tk s ctl dest src) l w) := by
  have HS := Aside0.mk hs
  have k0 : ∀ o1 o2, ((w.alloc o1).alloc o2).cell? ⟨g, 0, none⟩ = some (.int .i64 s.own) := fun o1 o2 => pw_cell_below (below_alloc (below_alloc (Below.refl _ _) o1) o2) (blk_cell hs.1 0)
  have k1 : ∀ o1 o2, ((w.alloc o1).alloc o2).cell? ⟨g, 1, none⟩ = some (.int .i64 s.master) := fun o1 o2 => pw_cell_below (below_alloc (below_alloc (Below.refl _ _) o1) o2) (blk_cell hs.1 1)
  have k2 : ∀ o1 o2, ((w.alloc o1).alloc o2).cell? ⟨g, 2, none⟩ = some (.bool s.ready) := fun o1 o2 => pw_cell_below (below_alloc (below_alloc (Below.refl _ _) o1) o2) (blk_cell hs.1 2)
  have k3 : ∀ o1 o2, ((w.alloc o1).alloc o2).cell? ⟨g, 3, none⟩ = some (.bool s.expect) := fun o1 o2 => pw_cell_below (below_alloc (below_alloc (Below.refl _ _) o1) o2) (blk_cell hs.1 3)
  have HS2 : ∀ o1 o2 n, IsSt B (((w.alloc o1).alloc o2).drewN n) g s := fun o1 o2 n => (HS.out.below (below_alloc (below_alloc (Below.refl _ _) _) _)).drewN n
  clear hs
  rw [er] at k2
  cases ef : (bits .and .i64 ctl 32 != 0) <;> cases ep : s.expect
  all_goals rw [ef, ep] at ex
  all_goals first | exact absurd ex (by decide) | skip
  all_goals
    rw [ep] at k3
    go_enter Try.func11, Try.ntmps11
    go_wp2
    go_quiet (fail)
    go_wp2
    go_quiet (fail)
    go_wp2_with fail
    (with_reducible refine (answer_any B g s 0 _ (HS2 _ _ _)).mono ?_)
    rintro _ w5 ⟨rfl, hb5⟩
    have h5 := blk_below (heap_twoN w _ _ _) hb5
    have c50 := blk_cell h5 0
    have c51 := blk_cell h5 1
    have c52 := blk_cell h5 2
    have c53 := blk_cell h5 3
    have f50 := blk_frozen h5 0
    have f51 := blk_frozen h5 1
    have f52 := blk_frozen h5 2
    have f53 := blk_frozen h5 3
    simp only [List.getElem?_toArray, List.getElem?_cons_zero, List.getElem?_cons_succ] at c50 c51 c52 c53
    have H5 := Aside0.mk h5
    have HB5 := Aside0.mk hb5
    clear h5 hb5
    go_wp2
    refine bodyPost_ret (results_cttt (p := 4) (u := 5) (v := 6) (x := 7) rfl _ _ (w.heap.size + 1) 29 #[.int .i64 0, .int .i64 s.master, .int .i64 s.own, .slice none 0 0] (0, 0) _ rfl (set_four H5.out _ _ _ _) Try.underlying29 rfl (by kernel_rfl)) rfl ⟨.slice none 0 0, by rw [ht.out]; rfl, ?_, ?_, ?_⟩
    · rw [ht.out]; exact own_nil _ _ _ _
    · rw [ht.out]; exact ⟨keep_four (blk_below (HS2 _ _ _).1 HB5.out) (by have := HS.out.lt; omega) _ _ _ _, HS.out.2⟩
    · exact (((((Chg.refl g w).alloc _).alloc _).drewN _).then_below HB5.out).four (Nat.le_succ _) _ _ _ _
end Go.Proofs.Ytpepgblmcjgbgaa
