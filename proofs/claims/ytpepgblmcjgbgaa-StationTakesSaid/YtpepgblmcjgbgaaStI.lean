/- The secondary station: what it sends; how it may answer. Conditions: bytes are bytes. -/
import Derived.Test.YtpepgblmcjgbgaaStG
namespace Go.Proofs.Ytpepgblmcjgbgaa
open Go.RowKit Go.Proofs.YtpepgblmcjgbgaaW.PrintWords
set_option linter.unusedVariables false
def SendPost (s : St) (l : List Int) (w : World) (e : Ending) (w' : World) : Prop := ∃ v, e = .returned (.agg #[.int .i64 68, .int .i64 s.master, .int .i64 s.own, v]) ∧ w'.ownsRow w.heap.size 5 1 v l.length (nums .u8 l) ∧ Below w.heap.size w w'
set_option maxHeartbeats 1000000 in
set_option maxRecDepth 100000 in
theorem send_any (B g : Nat) (s : St) (A : Option Addr) (n c : Nat) (l : List Int) (w : World) (hs : IsSt B w g s) (hr : ReadsInt w .u8 A n l) (hsz : n ≤ 140737488355328) :
    Calls Try.prog 16 #[.pointer (some ⟨g, 0, none⟩), .slice A n c] w (SendPost s l w) := by
  have HR := Aside0.mk hr
  have HS := Aside0.mk hs
  have H2 : ∀ o1, IsSt B (w.alloc o1) g s := fun o1 => HS.out.below (below_alloc (Below.refl _ _) _)
  clear hr hs
  go_enter Try.func16, Try.ntmps16
  go_wp2_with fail
  (with_reducible refine (answer_any B g s 68 _ (H2 _)).mono ?_)
  rintro _ w5 ⟨rfl, hb5⟩
  have HB5 := Aside0.mk hb5
  have hz5 := blk_below (heap_alloc_new w (.cells #[.int .i64 0, .int .i64 0, .int .i64 0, .slice none 0 0] 29)) hb5
  have HZ5 := Aside0.mk hz5
  have hl5 := blk_lt hz5
  have hr5 := (HR.out.below (below_two (below_alloc (Below.refl _ _) _) hb5)).below (below_alloc (Below.refl w5.heap.size w5) (.cells #[.int .i64 68, .int .i64 s.master, .int .i64 s.own, .slice none 0 0] 29))
  clear hb5 hz5
  go_wp2_with fail
  (with_reducible refine (clone_any A n c l _ hr5 hsz).mono ?_)
  rintro _ w6 ⟨v6, rfl, ho6, hb6⟩
  have h6 := blk_below (heap_alloc_new w5 _) hb6
  have z6 := blk_below (blk_alloc HZ5.out _) hb6
  obtain ⟨A6, c6, rfl, _⟩ := own_reads ho6
  have H6 := Aside0.mk h6
  have Z6 := Aside0.mk z6
  have HO6 := Aside0.mk ho6
  have HB6 := Aside0.mk hb6
  have a0 := blk_cell h6 0
  have a1 := blk_cell h6 1
  have a2 := blk_cell h6 2
  have a3 := blk_cell h6 3
  have b3 := blk_frozen h6 3
  have r0 := blk_cell z6 0
  have r1 := blk_cell z6 1
  have r2 := blk_cell z6 2
  have r3 := blk_cell z6 3
  have t0 := blk_frozen z6 0
  have t1 := blk_frozen z6 1
  have t2 := blk_frozen z6 2
  have t3 := blk_frozen z6 3
  simp only [List.getElem?_toArray, List.getElem?_cons_zero, List.getElem?_cons_succ] at a0 a1 a2 a3 r0 r1 r2 r3
  clear h6 z6 ho6 hb6 hr5
  have hne : w.heap.size ≠ w5.heap.size := by omega
  go_wp2
  have hz : (w6.setCell ⟨w5.heap.size, 3, none⟩ (.slice A6 l.length c6)).heap[w.heap.size]? = _ := (Below.heap_setCell _ _ _ _ hne).trans Z6.out
  refine bodyPost_ret (v := .agg #[.int .i64 68, .int .i64 s.master, .int .i64 s.own, .slice A6 l.length c6]) (results_cell_row (by rfl) _ _ w.heap.size 29 _ (0, 0) _ rfl (set_four hz _ _ _ _) Try.underlying29 rfl (by kernel_rfl)) rfl ⟨_, rfl, ?_, ?_⟩
  · exact own_four (own_chg HO6.out H6.out (by decide) ((Chg.refl _ w6).set 3 _)) hz (by decide) _ _ _ _ (by simp; omega)
  · exact below_set (below_set (below_set (below_set (below_set (below_two (below_two (below_two (below_alloc (Below.refl _ _) _) HB5.out) (below_alloc (Below.refl _ _) _)) HB6.out) (Nat.le_of_lt hl5)) (Nat.le_refl _)) (Nat.le_refl _)) (Nat.le_refl _)) (Nat.le_refl _)
/-- Whether a frame is answered, and how. -/
theorem tk_ans (s : St) (c d r : Int) : (tk s c d r).ans = none ∨ (tk s c d r).ans = some 0 ∨ (tk s c d r).ans = some 1 ∨ (tk s c d r).ans = some 11 ∨ (tk s c d r).ans = some 15 := by
  unfold tk; repeat' split
  all_goals first | exact .inl rfl | exact .inr (.inl rfl) | exact .inr (.inr (.inl rfl)) | exact .inr (.inr (.inr (.inl rfl))) | exact .inr (.inr (.inr (.inr rfl)))
end Go.Proofs.Ytpepgblmcjgbgaa
