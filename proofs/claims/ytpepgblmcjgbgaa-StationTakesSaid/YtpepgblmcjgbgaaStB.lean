/- The secondary station: what a frame that is not ours does. Conditions: bytes are bytes. -/
import Derived.Test.YtpepgblmcjgbgaaStA
namespace Go.Proofs.Ytpepgblmcjgbgaa
open Go.RowKit Go.Proofs.YtpepgblmcjgbgaaW.PrintWords
set_option linter.unusedVariables false


set_option maxHeartbeats 2000000 in
set_option maxRecDepth 100000 in
theorem take_deaf1 (B g : Nat) (s : St) (ctl dest src : Int) (A : Option Addr) (n c : Nat) (l : List Int) (w : World) (hs : IsSt B w g s) (hd : deafB s ctl dest src = true) (e1 : (dest != s.own) = true) :
    Calls Try.prog 11 #[.pointer (some ⟨g, 0, none⟩), .agg #[.int .i64 ctl, .int .i64 dest, .int .i64 src, .slice A n c]] w (TakePost B g s (tk s ctl dest src) l w) := by
  have ht := Aside0.mk (show tk s ctl dest src = ⟨s, none, false⟩ by unfold tk; rw [if_pos hd])
  have HS := Aside0.mk hs
  have k0 : ∀ o1 o2, ((w.alloc o1).alloc o2).cell? ⟨g, 0, none⟩ = some (.int .i64 s.own) := fun o1 o2 => pw_cell_below (below_alloc (below_alloc (Below.refl _ _) o1) o2) (blk_cell hs.1 0)
  have k1 : ∀ o1 o2, ((w.alloc o1).alloc o2).cell? ⟨g, 1, none⟩ = some (.int .i64 s.master) := fun o1 o2 => pw_cell_below (below_alloc (below_alloc (Below.refl _ _) o1) o2) (blk_cell hs.1 1)
  have k2 : ∀ o1 o2, ((w.alloc o1).alloc o2).cell? ⟨g, 2, none⟩ = some (.bool s.ready) := fun o1 o2 => pw_cell_below (below_alloc (below_alloc (Below.refl _ _) o1) o2) (blk_cell hs.1 2)
  have k3 : ∀ o1 o2, ((w.alloc o1).alloc o2).cell? ⟨g, 3, none⟩ = some (.bool s.expect) := fun o1 o2 => pw_cell_below (below_alloc (below_alloc (Below.refl _ _) o1) o2) (blk_cell hs.1 3)
  clear hs
  clear hd
  cases e6 : (bits .and .i64 ctl 15 == 2) <;> cases e7 : (bits .and .i64 ctl 15 == 3)
  all_goals
    go_enter Try.func11, Try.ntmps11
    go_wp2
    all_goals
      go_quiet (fail)
      go_wp2
      refine bodyPost_ret (results_cttt (p := 4) (u := 5) (v := 6) (x := 7) rfl _ _ (w.heap.size + 1) 29 #[.int .i64 0, .int .i64 0, .int .i64 0, .slice none 0 0] (0, 0) _ rfl (heap_fourN w _ _ _ _ _ _ _ _ _ _ _) Try.underlying29 rfl (by kernel_rfl)) rfl ⟨.slice none 0 0, by rw [ht.out]; rfl, ?_, ?_, ?_⟩
      · rw [ht.out]; exact own_nil _ _ _ _
      · rw [ht.out]; exact HS.out.below (below_fourN w _ _ _ _ _ _ _)
      · exact chg_fourN g w _ _ _ _ _ _ _
set_option maxHeartbeats 2000000 in
set_option maxRecDepth 100000 in
theorem take_deaf2 (B g : Nat) (s : St) (ctl dest src : Int) (A : Option Addr) (n c : Nat) (l : List Int) (w : World) (hs : IsSt B w g s) (hd : deafB s ctl dest src = true) (e1 : (dest != s.own) = false) (e2 : (src != s.master) = true) :
    Calls Try.prog 11 #[.pointer (some ⟨g, 0, none⟩), .agg #[.int .i64 ctl, .int .i64 dest, .int .i64 src, .slice A n c]] w (TakePost B g s (tk s ctl dest src) l w) := by
  have ht := Aside0.mk (show tk s ctl dest src = ⟨s, none, false⟩ by unfold tk; rw [if_pos hd])
  have HS := Aside0.mk hs
  have k0 : ∀ o1 o2, ((w.alloc o1).alloc o2).cell? ⟨g, 0, none⟩ = some (.int .i64 s.own) := fun o1 o2 => pw_cell_below (below_alloc (below_alloc (Below.refl _ _) o1) o2) (blk_cell hs.1 0)
  have k1 : ∀ o1 o2, ((w.alloc o1).alloc o2).cell? ⟨g, 1, none⟩ = some (.int .i64 s.master) := fun o1 o2 => pw_cell_below (below_alloc (below_alloc (Below.refl _ _) o1) o2) (blk_cell hs.1 1)
  have k2 : ∀ o1 o2, ((w.alloc o1).alloc o2).cell? ⟨g, 2, none⟩ = some (.bool s.ready) := fun o1 o2 => pw_cell_below (below_alloc (below_alloc (Below.refl _ _) o1) o2) (blk_cell hs.1 2)
  have k3 : ∀ o1 o2, ((w.alloc o1).alloc o2).cell? ⟨g, 3, none⟩ = some (.bool s.expect) := fun o1 o2 => pw_cell_below (below_alloc (below_alloc (Below.refl _ _) o1) o2) (blk_cell hs.1 3)
  clear hs
  clear hd
  cases e6 : (bits .and .i64 ctl 15 == 2) <;> cases e7 : (bits .and .i64 ctl 15 == 3)
  all_goals
    go_enter Try.func11, Try.ntmps11
    go_wp2
    all_goals
      go_quiet (fail)
      go_wp2
      refine bodyPost_ret (results_cttt (p := 4) (u := 5) (v := 6) (x := 7) rfl _ _ (w.heap.size + 1) 29 #[.int .i64 0, .int .i64 0, .int .i64 0, .slice none 0 0] (0, 0) _ rfl (heap_fourN w _ _ _ _ _ _ _ _ _ _ _) Try.underlying29 rfl (by kernel_rfl)) rfl ⟨.slice none 0 0, by rw [ht.out]; rfl, ?_, ?_, ?_⟩
      · rw [ht.out]; exact own_nil _ _ _ _
      · rw [ht.out]; exact HS.out.below (below_fourN w _ _ _ _ _ _ _)
      · exact chg_fourN g w _ _ _ _ _ _ _
set_option maxHeartbeats 2000000 in
set_option maxRecDepth 100000 in
theorem take_deaf3 (B g : Nat) (s : St) (ctl dest src : Int) (A : Option Addr) (n c : Nat) (l : List Int) (w : World) (hs : IsSt B w g s) (hd : deafB s ctl dest src = true) (e1 : (dest != s.own) = false) (e2 : (src != s.master) = false) (e3 : (bits .and .i64 ctl 128 == 0) = true) :
    Calls Try.prog 11 #[.pointer (some ⟨g, 0, none⟩), .agg #[.int .i64 ctl, .int .i64 dest, .int .i64 src, .slice A n c]] w (TakePost B g s (tk s ctl dest src) l w) := by
  have ht := Aside0.mk (show tk s ctl dest src = ⟨s, none, false⟩ by unfold tk; rw [if_pos hd])
  have HS := Aside0.mk hs
  have k0 : ∀ o1 o2, ((w.alloc o1).alloc o2).cell? ⟨g, 0, none⟩ = some (.int .i64 s.own) := fun o1 o2 => pw_cell_below (below_alloc (below_alloc (Below.refl _ _) o1) o2) (blk_cell hs.1 0)
  have k1 : ∀ o1 o2, ((w.alloc o1).alloc o2).cell? ⟨g, 1, none⟩ = some (.int .i64 s.master) := fun o1 o2 => pw_cell_below (below_alloc (below_alloc (Below.refl _ _) o1) o2) (blk_cell hs.1 1)
  have k2 : ∀ o1 o2, ((w.alloc o1).alloc o2).cell? ⟨g, 2, none⟩ = some (.bool s.ready) := fun o1 o2 => pw_cell_below (below_alloc (below_alloc (Below.refl _ _) o1) o2) (blk_cell hs.1 2)
  have k3 : ∀ o1 o2, ((w.alloc o1).alloc o2).cell? ⟨g, 3, none⟩ = some (.bool s.expect) := fun o1 o2 => pw_cell_below (below_alloc (below_alloc (Below.refl _ _) o1) o2) (blk_cell hs.1 3)
  clear hs
  clear hd
  cases e6 : (bits .and .i64 ctl 15 == 2) <;> cases e7 : (bits .and .i64 ctl 15 == 3)
  all_goals
    go_enter Try.func11, Try.ntmps11
    go_wp2
    all_goals
      go_quiet (fail)
      go_wp2
      refine bodyPost_ret (results_cttt (p := 4) (u := 5) (v := 6) (x := 7) rfl _ _ (w.heap.size + 1) 29 #[.int .i64 0, .int .i64 0, .int .i64 0, .slice none 0 0] (0, 0) _ rfl (heap_fourN w _ _ _ _ _ _ _ _ _ _ _) Try.underlying29 rfl (by kernel_rfl)) rfl ⟨.slice none 0 0, by rw [ht.out]; rfl, ?_, ?_, ?_⟩
      · rw [ht.out]; exact own_nil _ _ _ _
      · rw [ht.out]; exact HS.out.below (below_fourN w _ _ _ _ _ _ _)
      · exact chg_fourN g w _ _ _ _ _ _ _
set_option maxHeartbeats 2000000 in
set_option maxRecDepth 100000 in
theorem take_deaf4 (B g : Nat) (s : St) (ctl dest src : Int) (A : Option Addr) (n c : Nat) (l : List Int) (w : World) (hs : IsSt B w g s) (hd : deafB s ctl dest src = true) (e1 : (dest != s.own) = false) (e2 : (src != s.master) = false) (e3 : (bits .and .i64 ctl 128 == 0) = false) (e4 : (bits .and .i64 ctl 64 == 0) = true) :
    Calls Try.prog 11 #[.pointer (some ⟨g, 0, none⟩), .agg #[.int .i64 ctl, .int .i64 dest, .int .i64 src, .slice A n c]] w (TakePost B g s (tk s ctl dest src) l w) := by
  have ht := Aside0.mk (show tk s ctl dest src = ⟨s, none, false⟩ by unfold tk; rw [if_pos hd])
  have HS := Aside0.mk hs
  have k0 : ∀ o1 o2, ((w.alloc o1).alloc o2).cell? ⟨g, 0, none⟩ = some (.int .i64 s.own) := fun o1 o2 => pw_cell_below (below_alloc (below_alloc (Below.refl _ _) o1) o2) (blk_cell hs.1 0)
  have k1 : ∀ o1 o2, ((w.alloc o1).alloc o2).cell? ⟨g, 1, none⟩ = some (.int .i64 s.master) := fun o1 o2 => pw_cell_below (below_alloc (below_alloc (Below.refl _ _) o1) o2) (blk_cell hs.1 1)
  have k2 : ∀ o1 o2, ((w.alloc o1).alloc o2).cell? ⟨g, 2, none⟩ = some (.bool s.ready) := fun o1 o2 => pw_cell_below (below_alloc (below_alloc (Below.refl _ _) o1) o2) (blk_cell hs.1 2)
  have k3 : ∀ o1 o2, ((w.alloc o1).alloc o2).cell? ⟨g, 3, none⟩ = some (.bool s.expect) := fun o1 o2 => pw_cell_below (below_alloc (below_alloc (Below.refl _ _) o1) o2) (blk_cell hs.1 3)
  clear hs
  clear hd
  cases e6 : (bits .and .i64 ctl 15 == 2) <;> cases e7 : (bits .and .i64 ctl 15 == 3)
  all_goals
    go_enter Try.func11, Try.ntmps11
    go_wp2
    all_goals
      go_quiet (fail)
      go_wp2
      refine bodyPost_ret (results_cttt (p := 4) (u := 5) (v := 6) (x := 7) rfl _ _ (w.heap.size + 1) 29 #[.int .i64 0, .int .i64 0, .int .i64 0, .slice none 0 0] (0, 0) _ rfl (heap_fourN w _ _ _ _ _ _ _ _ _ _ _) Try.underlying29 rfl (by kernel_rfl)) rfl ⟨.slice none 0 0, by rw [ht.out]; rfl, ?_, ?_, ?_⟩
      · rw [ht.out]; exact own_nil _ _ _ _
      · rw [ht.out]; exact HS.out.below (below_fourN w _ _ _ _ _ _ _)
      · exact chg_fourN g w _ _ _ _ _ _ _
set_option maxHeartbeats 2000000 in
set_option maxRecDepth 100000 in
theorem take_deaf5 (B g : Nat) (s : St) (ctl dest src : Int) (A : Option Addr) (n c : Nat) (l : List Int) (w : World) (hs : IsSt B w g s) (hd : deafB s ctl dest src = true) (e1 : (dest != s.own) = false) (e2 : (src != s.master) = false) (e3 : (bits .and .i64 ctl 128 == 0) = false) (e4 : (bits .and .i64 ctl 64 == 0) = false) :
    Calls Try.prog 11 #[.pointer (some ⟨g, 0, none⟩), .agg #[.int .i64 ctl, .int .i64 dest, .int .i64 src, .slice A n c]] w (TakePost B g s (tk s ctl dest src) l w) := by
  have ht := Aside0.mk (show tk s ctl dest src = ⟨s, none, false⟩ by unfold tk; rw [if_pos hd])
  have HS := Aside0.mk hs
  have k0 : ∀ o1 o2, ((w.alloc o1).alloc o2).cell? ⟨g, 0, none⟩ = some (.int .i64 s.own) := fun o1 o2 => pw_cell_below (below_alloc (below_alloc (Below.refl _ _) o1) o2) (blk_cell hs.1 0)
  have k1 : ∀ o1 o2, ((w.alloc o1).alloc o2).cell? ⟨g, 1, none⟩ = some (.int .i64 s.master) := fun o1 o2 => pw_cell_below (below_alloc (below_alloc (Below.refl _ _) o1) o2) (blk_cell hs.1 1)
  have k2 : ∀ o1 o2, ((w.alloc o1).alloc o2).cell? ⟨g, 2, none⟩ = some (.bool s.ready) := fun o1 o2 => pw_cell_below (below_alloc (below_alloc (Below.refl _ _) o1) o2) (blk_cell hs.1 2)
  have k3 : ∀ o1 o2, ((w.alloc o1).alloc o2).cell? ⟨g, 3, none⟩ = some (.bool s.expect) := fun o1 o2 => pw_cell_below (below_alloc (below_alloc (Below.refl _ _) o1) o2) (blk_cell hs.1 3)
  clear hs
  obtain ⟨b5, e5⟩ : ∃ b, (bits .and .i64 ctl 16 != 0) = b := ⟨_, rfl⟩
  obtain ⟨f2, e6⟩ : ∃ b, (bits .and .i64 ctl 15 == 2) = b := ⟨_, rfl⟩
  obtain ⟨f3, e7⟩ : ∃ b, (bits .and .i64 ctl 15 == 3) = b := ⟨_, rfl⟩
  unfold deafB at hd
  rw [e1, e2, e3, e4, e5, e6, e7] at hd
  have HD := Aside0.mk hd
  clear hd
  cases f2 <;> cases f3 <;> cases b5
  case false.false.false => exact absurd HD.out (by decide)
  case false.true.true => exact absurd HD.out (by decide)
  case true.false.true => exact absurd HD.out (by decide)
  case true.true.true => exact absurd HD.out (by decide)
  all_goals
    go_enter Try.func11, Try.ntmps11
    go_wp2
    all_goals
      go_quiet (fail)
      go_wp2
      refine bodyPost_ret (results_cttt (p := 4) (u := 5) (v := 6) (x := 7) rfl _ _ (w.heap.size + 1) 29 #[.int .i64 0, .int .i64 0, .int .i64 0, .slice none 0 0] (0, 0) _ rfl (heap_fourN w _ _ _ _ _ _ _ _ _ _ _) Try.underlying29 rfl (by kernel_rfl)) rfl ⟨.slice none 0 0, by rw [ht.out]; rfl, ?_, ?_, ?_⟩
      · rw [ht.out]; exact own_nil _ _ _ _
      · rw [ht.out]; exact HS.out.below (below_fourN w _ _ _ _ _ _ _)
      · exact chg_fourN g w _ _ _ _ _ _ _
theorem take_deaf (B g : Nat) (s : St) (ctl dest src : Int) (A : Option Addr) (n c : Nat) (l : List Int) (w : World) (hs : IsSt B w g s) (hd : deafB s ctl dest src = true) :
    Calls Try.prog 11 #[.pointer (some ⟨g, 0, none⟩), .agg #[.int .i64 ctl, .int .i64 dest, .int .i64 src, .slice A n c]] w (TakePost B g s (tk s ctl dest src) l w) := by
  cases e1 : (dest != s.own)
  · cases e2 : (src != s.master)
    · cases e3 : (bits .and .i64 ctl 128 == 0)
      · cases e4 : (bits .and .i64 ctl 64 == 0)
        · exact take_deaf5 B g s ctl dest src A n c l w hs hd e1 e2 e3 e4
        · exact take_deaf4 B g s ctl dest src A n c l w hs hd e1 e2 e3 e4
      · exact take_deaf3 B g s ctl dest src A n c l w hs hd e1 e2 e3
    · exact take_deaf2 B g s ctl dest src A n c l w hs hd e1 e2
  · exact take_deaf1 B g s ctl dest src A n c l w hs hd e1
end Go.Proofs.Ytpepgblmcjgbgaa
