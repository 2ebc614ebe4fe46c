/- The document's station: frames whose data is handed up; what it sends. Conditions: the arguments read as data. -/
import Derived.Test.YtpepgblmcjgbgaaStO
import Derived.Test.YtpepgblmcjgbgaaStD
namespace Go.Proofs.Ytpepgblmcjgbgaa
open Go.RowKit Go.Proofs.YtpepgblmcjgbgaaW.PrintWords
set_option linter.unusedVariables false
/-- In a region that clones: nothing but one frame's own variable turns. -/
def HeldF (k : Nat) (W w' : World) : Prop := Chg k W w' ∧ ∃ x0 x1 x2 x3, w'.heap[k]? = some (.cells #[x0, x1, x2, x3] 48 (0, 0))
theorem HeldF.below {k : Nat} {W a b : World} (h : HeldF k W a) (hb : Below a.heap.size a b) : HeldF k W b := by
  obtain ⟨h1, x0, x1, x2, x3, h2⟩ := h
  exact ⟨h1.then_below hb, x0, x1, x2, x3, blk_below h2 hb⟩
theorem HeldF.four {k : Nat} {W a : World} (h : HeldF k W a) (y0 y1 y2 y3 : Value) : HeldF k W ((((a.setCell ⟨k, 0, none⟩ y0).setCell ⟨k, 1, none⟩ y1).setCell ⟨k, 2, none⟩ y2).setCell ⟨k, 3, none⟩ y3) := by
  obtain ⟨h1, x0, x1, x2, x3, h2⟩ := h
  exact ⟨(((h1.set 0 y0).set 1 y1).set 2 y2).set 3 y3, _, _, _, _, set_four h2 y0 y1 y2 y3⟩
def HeldCells (k : Nat) (w' : World) : Prop := w'.cell? ⟨k, 0, none⟩ = some (cellOf w' ⟨k, 0, none⟩) ∧ w'.cell? ⟨k, 1, none⟩ = some (cellOf w' ⟨k, 1, none⟩) ∧ w'.cell? ⟨k, 2, none⟩ = some (cellOf w' ⟨k, 2, none⟩) ∧ w'.cell? ⟨k, 3, none⟩ = some (cellOf w' ⟨k, 3, none⟩) ∧ w'.frozen? ⟨k, 0, none⟩ = false ∧ w'.frozen? ⟨k, 1, none⟩ = false ∧ w'.frozen? ⟨k, 2, none⟩ = false ∧ w'.frozen? ⟨k, 3, none⟩ = false
theorem HeldF.cells {k : Nat} {W w' : World} (h : HeldF k W w') : HeldCells k w' := by
  obtain ⟨h1, x0, x1, x2, x3, h2⟩ := h
  exact ⟨cell_some h2 (by simp), cell_some h2 (by simp), cell_some h2 (by simp), cell_some h2 (by simp), blk_frozen h2 0, blk_frozen h2 1, blk_frozen h2 2, blk_frozen h2 3⟩
theorem nextF {k : Nat} {W w4 w5 : World} {q : Prop} (h : Aside0 (HeldF k W w4) ∧ q) (hb : Below w4.heap.size w4 w5) : Aside0 (HeldF k W w5) := Aside0.mk (h.1.out.below hb)
theorem sizeF {k : Nat} {X w4 : World} {q : Prop} (h : Aside0 (HeldF k X w4) ∧ q) : X.heap.size ≤ w4.heap.size := h.1.out.1.size
theorem readsF {g n k : Nat} {A : Option Addr} {l : List Int} {w W w4 : World} {q : Prop} (hr : ∀ w1, Chg g w w1 → ReadsInt w1 .u8 A n l) (hc : Chg g w W) (hk : w.heap.size ≤ k) (h : Aside0 (HeldF k W w4) ∧ q) : ReadsInt w4 .u8 A n l := hr _ (chg_new hc hk h.1.out.1)
theorem factsS {g k : Nat} {W w' : World} {o m : Int} {x y : Value} (hg : W.heap[g]? = some (.cells #[.int .i64 o, .int .i64 m, x, y] 46 (0, 0))) (hk : g ≠ k) (h : HeldF k W w') :
    Aside0 (HeldF k W w') ∧ w'.cell? ⟨g, 0, none⟩ = some (.int .i64 o) ∧ w'.cell? ⟨g, 1, none⟩ = some (.int .i64 m) ∧ w'.cell? ⟨k, 0, none⟩ = some (cellOf w' ⟨k, 0, none⟩) ∧ w'.cell? ⟨k, 1, none⟩ = some (cellOf w' ⟨k, 1, none⟩) ∧ w'.cell? ⟨k, 2, none⟩ = some (cellOf w' ⟨k, 2, none⟩) ∧ w'.cell? ⟨k, 3, none⟩ = some (cellOf w' ⟨k, 3, none⟩) ∧ w'.frozen? ⟨k, 0, none⟩ = false ∧ w'.frozen? ⟨k, 1, none⟩ = false ∧ w'.frozen? ⟨k, 2, none⟩ = false ∧ w'.frozen? ⟨k, 3, none⟩ = false := by
  have h3 := (h.1.block g (blk_lt hg) hk).trans hg
  exact ⟨Aside0.mk h, blk_cell h3 0, blk_cell h3 1, h.cells⟩
theorem factsT {d a k : Nat} {W w' : World} {x0 x1 x2 x3 y0 y1 y2 y3 : Value} (hf : W.heap[d]? = some (.cells #[x0, x1, x2, x3] 48 (0, 0))) (ha : W.heap[a]? = some (.cells #[y0, y1, y2, y3] 48 (0, 0))) (hd : d ≠ k) (hk : a ≠ k) (h : HeldF k W w') :
    Aside0 (HeldF k W w') ∧ w'.cell? ⟨d, 3, none⟩ = some x3 ∧ w'.cell? ⟨a, 0, none⟩ = some y0 ∧ w'.cell? ⟨a, 1, none⟩ = some y1 ∧ w'.cell? ⟨a, 2, none⟩ = some y2 ∧ w'.cell? ⟨a, 3, none⟩ = some y3 ∧ w'.cell? ⟨k, 0, none⟩ = some (cellOf w' ⟨k, 0, none⟩) ∧ w'.cell? ⟨k, 1, none⟩ = some (cellOf w' ⟨k, 1, none⟩) ∧ w'.cell? ⟨k, 2, none⟩ = some (cellOf w' ⟨k, 2, none⟩) ∧ w'.cell? ⟨k, 3, none⟩ = some (cellOf w' ⟨k, 3, none⟩) ∧ w'.frozen? ⟨k, 0, none⟩ = false ∧ w'.frozen? ⟨k, 1, none⟩ = false ∧ w'.frozen? ⟨k, 2, none⟩ = false ∧ w'.frozen? ⟨k, 3, none⟩ = false := by
  have h3 := (h.1.block d (blk_lt hf) hd).trans hf
  have h4 := (h.1.block a (blk_lt ha) hk).trans ha
  exact ⟨Aside0.mk h, blk_cell h3 3, blk_cell h4 0, blk_cell h4 1, blk_cell h4 2, blk_cell h4 3, h.cells⟩
set_option maxHeartbeats 4000000 in
set_option maxRecDepth 100000 in
theorem rsend_any (B g : Nat) (s : St) (A : Option Addr) (n c : Nat) (l : List Int) (w : World) (hs : IsRf B w g s) (hr : ReadsInt w .u8 A n l) (hsz : n ≤ 140737488355328) :
    Calls Try.prog 23 #[.pointer (some ⟨g, 0, none⟩), .slice A n c] w (SendPost s l w) := by
  have HR := Aside0.mk hr
  have HS := Aside0.mk hs
  have hlg := hs.lt
  clear hs hr
  go_enter Try.func23, Try.ntmps23
  go_wp2
  generalize hW : w.alloc _ = W
  have hz : W.heap[w.heap.size]? = some (.cells #[.int .i64 0, .int .i64 0, .int .i64 0, .slice none 0 0] 48 (0, 0)) := by rw [← hW]; exact heap_alloc_new w _
  have hbW : Below w.heap.size w W := by rw [← hW]; exact below_alloc (Below.refl _ _) _
  have HbW := Aside0.mk hbW
  have HsW := Aside0.mk (HS.out.below hbW)
  have Hz := Aside0.mk hz
  have hsz1 : w.heap.size < W.heap.size := blk_lt hz
  clear hbW hz hW
  have HZ1 := Aside0.mk (show HeldF w.heap.size W W from ⟨Chg.refl _ _, _, _, _, _, Hz.out⟩)
  have HZ2 := Aside0.mk (show HeldF w.heap.size W W.drew from ⟨(Chg.refl _ _).drewN 1, _, _, _, _, Hz.out⟩)
  have hgk : g ≠ w.heap.size := by omega
  go_region_held3 (fun w' => Aside0 (HeldF w.heap.size W w') ∧ w'.cell? ⟨g, 0, none⟩ = some (.int .i64 s.own) ∧ w'.cell? ⟨g, 1, none⟩ = some (.int .i64 s.master) ∧ w'.cell? ⟨w.heap.size, 0, none⟩ = some (cellOf w' ⟨w.heap.size, 0, none⟩) ∧ w'.cell? ⟨w.heap.size, 1, none⟩ = some (cellOf w' ⟨w.heap.size, 1, none⟩) ∧ w'.cell? ⟨w.heap.size, 2, none⟩ = some (cellOf w' ⟨w.heap.size, 2, none⟩) ∧ w'.cell? ⟨w.heap.size, 3, none⟩ = some (cellOf w' ⟨w.heap.size, 3, none⟩) ∧ w'.frozen? ⟨w.heap.size, 0, none⟩ = false ∧ w'.frozen? ⟨w.heap.size, 1, none⟩ = false ∧ w'.frozen? ⟨w.heap.size, 2, none⟩ = false ∧ w'.frozen? ⟨w.heap.size, 3, none⟩ = false)
    (first
      | exact factsS HsW.out.1 hgk HZ1.out
      | exact factsS HsW.out.1 hgk HZ2.out
      | exact factsS HsW.out.1 hgk (Aside0.out (by assumption))
      | exact factsS HsW.out.1 hgk (HeldF.four (Aside0.out (by assumption)) _ _ _ _))
    ((go_at_call 27; (with_reducible refine (copyBytes_any A n c l _ ?_ hsz).mono ?_); (exact readsF (g := w.heap.size) (fun w1 hc => HR.out.below (hc.below (Nat.le_refl _) (Nat.le_refl _))) (Chg.of_below HbW.out) (Nat.le_refl _) (by assumption)); rintro e w6 ⟨v6, rfl, ho6, hb7⟩; obtain ⟨A6, c6, rfl, hr6⟩ := own_reads ho6; have hb8 : Aside0 (HeldF w.heap.size W w6) := nextF (by assumption) hb7; have hpv := sizeF (X := W) (k := w.heap.size) (by assumption); have HO6 := Aside0.mk ho6; clear ho6 hr6))
  go_wp2
  obtain ⟨hq6, x0, x1, x2, x3, hz6⟩ := hb8.out
  refine bodyPost_ret (v := .agg #[.int .i64 68, .int .i64 s.master, .int .i64 s.own, .slice A6 l.length c6]) (results_cell_row (by rfl) _ _ w.heap.size 48 _ (0, 0) _ rfl (set_four hz6 _ _ _ _) Try.underlying48 rfl (by kernel_rfl)) rfl ⟨_, rfl, ?_, ?_⟩
  · exact own_four HO6.out hz6 (by decide) _ _ _ _ (by omega)
  · exact (((Chg.of_below HbW.out).trans hq6).four (Nat.le_refl _) _ _ _ _).below (Nat.le_refl _) (Nat.le_refl _)
set_option maxHeartbeats 4000000 in
set_option maxRecDepth 100000 in
theorem rtake_plain (B g : Nat) (s : St) (ctl dest src : Int) (A : Option Addr) (n c : Nat) (l : List Int) (w : World) (hs : IsRf B w g s) (e1 : (dest != s.own) = false) (e2 : (src != s.master) = false) (e3 : (bits .and .i64 ctl 192 != 192) = false) (e5 : (bits .and .i64 ctl 16 != 0) = false) (e6 : (bits .and .i64 ctl 15 == 2) = false) (e7 : (bits .and .i64 ctl 15 == 3) = false) (e8 : (bits .and .i64 ctl 15 == 0) = false) (e9 : (bits .and .i64 ctl 15 == 4) = true) (HR : Aside0 (∀ w1, Chg g w w1 → ReadsInt w1 .u8 A n l)) (hsz : n ≤ 140737488355328) (ht : Aside0 (tk s ctl dest src = ⟨s, none, true⟩)) :
    Calls Try.prog 20 #[.pointer (some ⟨g, 0, none⟩), .agg #[.int .i64 ctl, .int .i64 dest, .int .i64 src, .slice A n c]] w (RTakePost B g s (tk s ctl dest src) l w) := by
  have k0 : ∀ o1 o2, ((w.alloc o1).alloc o2).cell? ⟨g, 0, none⟩ = some (.int .i64 s.own) := fun o1 o2 => pw_cell_below (below_alloc (below_alloc (Below.refl _ _) o1) o2) (blk_cell hs.1 0)
  have k1 : ∀ o1 o2, ((w.alloc o1).alloc o2).cell? ⟨g, 1, none⟩ = some (.int .i64 s.master) := fun o1 o2 => pw_cell_below (below_alloc (below_alloc (Below.refl _ _) o1) o2) (blk_cell hs.1 1)
  have k2 : ∀ o1 o2, ((w.alloc o1).alloc o2).cell? ⟨g, 2, none⟩ = some (.bool s.ready) := fun o1 o2 => pw_cell_below (below_alloc (below_alloc (Below.refl _ _) o1) o2) (blk_cell hs.1 2)
  have k3 : ∀ o1 o2, ((w.alloc o1).alloc o2).cell? ⟨g, 3, none⟩ = some (.bool (s.ready && s.expect)) := fun o1 o2 => pw_cell_below (below_alloc (below_alloc (Below.refl _ _) o1) o2) (blk_cell hs.1 3)
  have HS := Aside0.mk hs
  clear hs
  go_enter Try.func20, Try.ntmps20
  go_wp2
  go_quiet (fail)
  go_wp2
  have q0 : ∀ o1 o2 m, (((w.alloc o1).alloc o2).drewN m).cell? ⟨g, 0, none⟩ = some (.int .i64 s.own) := fun o1 o2 m => k0 o1 o2
  have q1 : ∀ o1 o2 m, (((w.alloc o1).alloc o2).drewN m).cell? ⟨g, 1, none⟩ = some (.int .i64 s.master) := fun o1 o2 m => k1 o1 o2
  go_region_held3 (fun w' => w'.cell? ⟨g, 0, none⟩ = some (.int .i64 s.own) ∧ w'.cell? ⟨g, 1, none⟩ = some (.int .i64 s.master)) (first | exact ⟨q0 _ _ _, q1 _ _ _⟩ | exact ⟨k0 _ _, k1 _ _⟩ | go_keep) (fail)
  generalize hW : (((w.alloc _).alloc _).drewN _).alloc _ = W
  obtain ⟨hz, ha, hg, hc, hf⟩ := rbase B g s w HS.out _ _ _ _ _ _ _ _ _ _ W hW
  clear hW k0 k1 q0 q1 k2 k3
  have hlg := HS.out.lt
  have z0 := blk_cell hz 0
  have z1 := blk_cell hz 1
  have z2 := blk_cell hz 2
  have z3 := blk_cell hz 3
  have zf0 := blk_frozen hz 0
  have zf1 := blk_frozen hz 1
  have zf2 := blk_frozen hz 2
  have zf3 := blk_frozen hz 3
  have a0 := blk_cell ha 0
  have a1 := blk_cell ha 1
  have a2 := blk_cell ha 2
  have a3 := blk_cell ha 3
  have af0 := blk_frozen ha 0
  have g2 := blk_cell hg.1 2
  have g3 := blk_cell hg.1 3
  have gf2 := blk_frozen hg.1 2
  have gf3 := blk_frozen hg.1 3
  have d0 := blk_cell hf 0
  have d3 := blk_cell hf 3
  simp only [List.getElem?_toArray, List.getElem?_cons_zero, List.getElem?_cons_succ] at z0 z1 z2 z3 a0 a1 a2 a3 g2 g3 d0 d3
  have HF := Aside0.mk hf
  have HZ := Aside0.mk hz
  have HA := Aside0.mk ha
  have HG := Aside0.mk hg
  have HC := Aside0.mk hc
  clear hz ha hg hc hf
  go_wp2_with fail
  (with_reducible refine (copyBytes_any A n c l _ (HR.out _ HC.out) hsz).mono ?_)
  rintro _ w5 ⟨v5, rfl, ho5, hb5⟩
  clear z0 z1 z2 z3 zf0 zf1 zf2 zf3 a0 a1 a2 a3 g2 g3 af0 gf2 gf3 d0 d3
  have h5 := blk_below HZ.out hb5
  have c50 := blk_cell h5 0
  have c51 := blk_cell h5 1
  have c52 := blk_cell h5 2
  have c53 := blk_cell h5 3
  have f50 := blk_frozen h5 0
  have f51 := blk_frozen h5 1
  have f52 := blk_frozen h5 2
  have f53 := blk_frozen h5 3
  simp only [List.getElem?_toArray, List.getElem?_cons_zero, List.getElem?_cons_succ] at c50 c51 c52 c53
  have H5 := Aside0.mk h5
  have HB5 := Aside0.mk hb5
  have HO5 := Aside0.mk ho5
  clear h5 hb5 ho5
  go_wp2
  have hsz5 : w.heap.size + 1 < W.heap.size := blk_lt HZ.out
  refine bodyPost_ret (results_cttt (p := 4) (u := 5) (v := 6) (x := 7) rfl _ _ (w.heap.size + 1) 48 #[.int .i64 0, .int .i64 0, .int .i64 0, .slice none 0 0] (0, 0) _ rfl (set_four H5.out _ _ _ _) Try.underlying48 rfl (by kernel_rfl)) rfl ⟨v5, by rw [ht.out]; rfl, ?_, ?_, ?_⟩
  · rw [ht.out]; exact own_four HO5.out H5.out (by decide) _ _ _ _ (by have := HC.out.size; omega)
  · rw [ht.out]; exact (HG.out.below HB5.out).four (by omega) _ _ _ _
  · exact (HC.out.then_below HB5.out).four (Nat.le_succ _) _ _ _ _
set_option maxHeartbeats 4000000 in
set_option maxRecDepth 100000 in
theorem rtake_tog3true (B g : Nat) (s : St) (ctl dest src : Int) (A : Option Addr) (n c : Nat) (l : List Int) (w : World) (hs : IsRf B w g s) (e1 : (dest != s.own) = false) (e2 : (src != s.master) = false) (e3 : (bits .and .i64 ctl 192 != 192) = false) (e5 : (bits .and .i64 ctl 16 != 0) = true) (e6 : (bits .and .i64 ctl 15 == 2) = false) (e7 : (bits .and .i64 ctl 15 == 3) = true) (e8 : (bits .and .i64 ctl 15 == 0) = false) (HR : Aside0 (∀ w1, Chg g w w1 → ReadsInt w1 .u8 A n l)) (hsz : n ≤ 140737488355328) (er : s.ready = true) (ef : (bits .and .i64 ctl 32 != 0) = true) (ep : s.expect = true) (ht : Aside0 (tk s ctl dest src = ⟨{ s with expect := false }, some 0, true⟩)) :
    Calls Try.prog 20 #[.pointer (some ⟨g, 0, none⟩), .agg #[.int .i64 ctl, .int .i64 dest, .int .i64 src, .slice A n c]] w (RTakePost B g s (tk s ctl dest src) l w) := by
  have k0 : ∀ o1 o2, ((w.alloc o1).alloc o2).cell? ⟨g, 0, none⟩ = some (.int .i64 s.own) := fun o1 o2 => pw_cell_below (below_alloc (below_alloc (Below.refl _ _) o1) o2) (blk_cell hs.1 0)
  have k1 : ∀ o1 o2, ((w.alloc o1).alloc o2).cell? ⟨g, 1, none⟩ = some (.int .i64 s.master) := fun o1 o2 => pw_cell_below (below_alloc (below_alloc (Below.refl _ _) o1) o2) (blk_cell hs.1 1)
  have k2 : ∀ o1 o2, ((w.alloc o1).alloc o2).cell? ⟨g, 2, none⟩ = some (.bool s.ready) := fun o1 o2 => pw_cell_below (below_alloc (below_alloc (Below.refl _ _) o1) o2) (blk_cell hs.1 2)
  have k3 : ∀ o1 o2, ((w.alloc o1).alloc o2).cell? ⟨g, 3, none⟩ = some (.bool (s.ready && s.expect)) := fun o1 o2 => pw_cell_below (below_alloc (below_alloc (Below.refl _ _) o1) o2) (blk_cell hs.1 3)
  have HS := Aside0.mk hs
  clear hs
  go_enter Try.func20, Try.ntmps20
  go_wp2
  go_quiet (fail)
  go_wp2
  have q0 : ∀ o1 o2 m, (((w.alloc o1).alloc o2).drewN m).cell? ⟨g, 0, none⟩ = some (.int .i64 s.own) := fun o1 o2 m => k0 o1 o2
  have q1 : ∀ o1 o2 m, (((w.alloc o1).alloc o2).drewN m).cell? ⟨g, 1, none⟩ = some (.int .i64 s.master) := fun o1 o2 m => k1 o1 o2
  go_region_held3 (fun w' => w'.cell? ⟨g, 0, none⟩ = some (.int .i64 s.own) ∧ w'.cell? ⟨g, 1, none⟩ = some (.int .i64 s.master)) (first | exact ⟨q0 _ _ _, q1 _ _ _⟩ | exact ⟨k0 _ _, k1 _ _⟩ | go_keep) (fail)
  generalize hW : (((w.alloc _).alloc _).drewN _).alloc _ = W
  obtain ⟨hz, ha, hg, hc, hf⟩ := rbase B g s w HS.out _ _ _ _ _ _ _ _ _ _ W hW
  clear hW k0 k1 q0 q1 k2 k3
  have hlg := HS.out.lt
  have z0 := blk_cell hz 0
  have z1 := blk_cell hz 1
  have z2 := blk_cell hz 2
  have z3 := blk_cell hz 3
  have zf0 := blk_frozen hz 0
  have zf1 := blk_frozen hz 1
  have zf2 := blk_frozen hz 2
  have zf3 := blk_frozen hz 3
  have a0 := blk_cell ha 0
  have a1 := blk_cell ha 1
  have a2 := blk_cell ha 2
  have a3 := blk_cell ha 3
  have af0 := blk_frozen ha 0
  have g2 := blk_cell hg.1 2
  have g3 := blk_cell hg.1 3
  have gf2 := blk_frozen hg.1 2
  have gf3 := blk_frozen hg.1 3
  have d0 := blk_cell hf 0
  have d3 := blk_cell hf 3
  simp only [List.getElem?_toArray, List.getElem?_cons_zero, List.getElem?_cons_succ] at z0 z1 z2 z3 a0 a1 a2 a3 g2 g3 d0 d3
  have HF := Aside0.mk hf
  have HZ := Aside0.mk hz
  have HA := Aside0.mk ha
  have HG := Aside0.mk hg
  have HC := Aside0.mk hc
  clear hz ha hg hc hf
  rw [er, ep] at g3
  rw [er] at g2
  go_wp2
  go_quiet (fail)
  go_wp2
  generalize hX : ((W.setCell _ _).drewN _).setCell _ _ = X
  have hzX : X.heap[w.heap.size + 1]? = some (.cells #[.int .i64 0, .int .i64 0, .int .i64 0, .slice none 0 0] 48 (0, 0)) := by
    rw [← hX]; exact (Below.heap_setCell _ _ _ _ (show w.heap.size + 1 ≠ g by omega)).trans ((heap_drewN _ _ _).trans ((Below.heap_setCell _ _ _ _ (show w.heap.size + 1 ≠ w.heap.size + 1 + 1 by omega)).trans HZ.out))
  have haX : X.heap[w.heap.size + 1 + 1]? = some (.cells #[.int .i64 0, .int .i64 s.master, .int .i64 s.own, .slice none 0 0] 48 (0, 0)) := by
    rw [← hX]; exact (Below.heap_setCell _ _ _ _ (show w.heap.size + 1 + 1 ≠ g by omega)).trans ((heap_drewN _ _ _).trans (by have h := blk_set HA.out 0 (.int .i64 0); simpa using h))
  have hfX : X.heap[w.heap.size]? = some (.cells #[.int .i64 ctl, .int .i64 dest, .int .i64 src, .slice A n c] 48 (0, 0)) := by
    rw [← hX]; exact (Below.heap_setCell _ _ _ _ (show w.heap.size ≠ g by omega)).trans ((heap_drewN _ _ _).trans ((Below.heap_setCell _ _ _ _ (show w.heap.size ≠ w.heap.size + 1 + 1 by omega)).trans HF.out))
  have HgX := Aside0.mk (show IsRf B X g { s with expect := false } by rw [← hX]; exact ((HG.out.set (show g ≠ w.heap.size + 1 + 1 by omega) _).drewN _).flag er false)
  have HcX := Aside0.mk (show Chg g w X by rw [← hX]; exact ((HC.out.new (show w.heap.size ≤ w.heap.size + 1 + 1 by omega) _).drewN _).set 3 _)
  have HzX := Aside0.mk hzX
  have HaX := Aside0.mk haX
  have HfX := Aside0.mk hfX
  have hsz1 : w.heap.size + 1 < X.heap.size := blk_lt hzX
  clear hzX haX hfX hX z0 z1 z2 z3 zf0 zf1 zf2 zf3 a0 a1 a2 a3 g2 g3 af0 gf2 gf3 d0 d3
  have HZ1 := Aside0.mk (show HeldF (w.heap.size + 1) X X from ⟨Chg.refl _ _, _, _, _, _, HzX.out⟩)
  have HZ2 := Aside0.mk (show HeldF (w.heap.size + 1) X X.drew from ⟨(Chg.refl _ _).drewN 1, _, _, _, _, HzX.out⟩)
  have hgk : g ≠ w.heap.size + 1 := by omega
  have hdk : w.heap.size ≠ w.heap.size + 1 := by omega
  have hak : w.heap.size + 1 + 1 ≠ w.heap.size + 1 := by omega
  go_region_held3 (fun w' => Aside0 (HeldF (w.heap.size + 1) X w') ∧ w'.cell? ⟨w.heap.size, 3, none⟩ = some (.slice A n c) ∧ w'.cell? ⟨w.heap.size + 1 + 1, 0, none⟩ = some (.int .i64 0) ∧ w'.cell? ⟨w.heap.size + 1 + 1, 1, none⟩ = some (.int .i64 s.master) ∧ w'.cell? ⟨w.heap.size + 1 + 1, 2, none⟩ = some (.int .i64 s.own) ∧ w'.cell? ⟨w.heap.size + 1 + 1, 3, none⟩ = some (.slice none 0 0) ∧ w'.cell? ⟨w.heap.size + 1, 0, none⟩ = some (cellOf w' ⟨w.heap.size + 1, 0, none⟩) ∧ w'.cell? ⟨w.heap.size + 1, 1, none⟩ = some (cellOf w' ⟨w.heap.size + 1, 1, none⟩) ∧ w'.cell? ⟨w.heap.size + 1, 2, none⟩ = some (cellOf w' ⟨w.heap.size + 1, 2, none⟩) ∧ w'.cell? ⟨w.heap.size + 1, 3, none⟩ = some (cellOf w' ⟨w.heap.size + 1, 3, none⟩) ∧ w'.frozen? ⟨w.heap.size + 1, 0, none⟩ = false ∧ w'.frozen? ⟨w.heap.size + 1, 1, none⟩ = false ∧ w'.frozen? ⟨w.heap.size + 1, 2, none⟩ = false ∧ w'.frozen? ⟨w.heap.size + 1, 3, none⟩ = false)
    (first
      | exact factsT HfX.out HaX.out hdk hak HZ1.out
      | exact factsT HfX.out HaX.out hdk hak HZ2.out
      | exact factsT HfX.out HaX.out hdk hak (Aside0.out (by assumption))
      | exact factsT HfX.out HaX.out hdk hak (HeldF.four (Aside0.out (by assumption)) _ _ _ _))
    ((go_at_call 27; (with_reducible refine (copyBytes_any A n c l _ ?_ hsz).mono ?_); (exact readsF HR.out HcX.out (Nat.le_succ _) (by assumption)); rintro e w6 ⟨v6, rfl, ho6, hb7⟩; have hb8 : Aside0 (HeldF (w.heap.size + 1) X w6) := nextF (by assumption) hb7; have hpv := sizeF (X := X) (k := w.heap.size + 1) (by assumption); have HO6 := Aside0.mk ho6; clear ho6))
  go_wp2
  obtain ⟨hq6, x0, x1, x2, x3, hz6⟩ := hb8.out
  refine bodyPost_ret (results_cttt (p := 4) (u := 5) (v := 6) (x := 7) rfl _ _ (w.heap.size + 1) 48 #[.int .i64 0, .int .i64 s.master, .int .i64 s.own, .slice none 0 0] (0, 0) _ rfl (set_four hz6 _ _ _ _) Try.underlying48 rfl (by kernel_rfl)) rfl ⟨v6, by rw [ht.out]; rfl, ?_, ?_, ?_⟩
  · rw [ht.out]; exact own_four HO6.out hz6 (by decide) _ _ _ _ (by omega)
  · rw [ht.out]; exact (HgX.out.other hq6 hgk).four hgk _ _ _ _
  · exact (chg_new HcX.out (Nat.le_succ _) hq6).four (Nat.le_succ _) _ _ _ _
set_option maxHeartbeats 4000000 in
set_option maxRecDepth 100000 in
theorem rtake_tog3false (B g : Nat) (s : St) (ctl dest src : Int) (A : Option Addr) (n c : Nat) (l : List Int) (w : World) (hs : IsRf B w g s) (e1 : (dest != s.own) = false) (e2 : (src != s.master) = false) (e3 : (bits .and .i64 ctl 192 != 192) = false) (e5 : (bits .and .i64 ctl 16 != 0) = true) (e6 : (bits .and .i64 ctl 15 == 2) = false) (e7 : (bits .and .i64 ctl 15 == 3) = true) (e8 : (bits .and .i64 ctl 15 == 0) = false) (HR : Aside0 (∀ w1, Chg g w w1 → ReadsInt w1 .u8 A n l)) (hsz : n ≤ 140737488355328) (er : s.ready = true) (ef : (bits .and .i64 ctl 32 != 0) = false) (ep : s.expect = false) (ht : Aside0 (tk s ctl dest src = ⟨{ s with expect := true }, some 0, true⟩)) :
    Calls Try.prog 20 #[.pointer (some ⟨g, 0, none⟩), .agg #[.int .i64 ctl, .int .i64 dest, .int .i64 src, .slice A n c]] w (RTakePost B g s (tk s ctl dest src) l w) := by
  have k0 : ∀ o1 o2, ((w.alloc o1).alloc o2).cell? ⟨g, 0, none⟩ = some (.int .i64 s.own) := fun o1 o2 => pw_cell_below (below_alloc (below_alloc (Below.refl _ _) o1) o2) (blk_cell hs.1 0)
  have k1 : ∀ o1 o2, ((w.alloc o1).alloc o2).cell? ⟨g, 1, none⟩ = some (.int .i64 s.master) := fun o1 o2 => pw_cell_below (below_alloc (below_alloc (Below.refl _ _) o1) o2) (blk_cell hs.1 1)
  have k2 : ∀ o1 o2, ((w.alloc o1).alloc o2).cell? ⟨g, 2, none⟩ = some (.bool s.ready) := fun o1 o2 => pw_cell_below (below_alloc (below_alloc (Below.refl _ _) o1) o2) (blk_cell hs.1 2)
  have k3 : ∀ o1 o2, ((w.alloc o1).alloc o2).cell? ⟨g, 3, none⟩ = some (.bool (s.ready && s.expect)) := fun o1 o2 => pw_cell_below (below_alloc (below_alloc (Below.refl _ _) o1) o2) (blk_cell hs.1 3)
  have HS := Aside0.mk hs
  clear hs
  go_enter Try.func20, Try.ntmps20
  go_wp2
  go_quiet (fail)
  go_wp2
  have q0 : ∀ o1 o2 m, (((w.alloc o1).alloc o2).drewN m).cell? ⟨g, 0, none⟩ = some (.int .i64 s.own) := fun o1 o2 m => k0 o1 o2
  have q1 : ∀ o1 o2 m, (((w.alloc o1).alloc o2).drewN m).cell? ⟨g, 1, none⟩ = some (.int .i64 s.master) := fun o1 o2 m => k1 o1 o2
  go_region_held3 (fun w' => w'.cell? ⟨g, 0, none⟩ = some (.int .i64 s.own) ∧ w'.cell? ⟨g, 1, none⟩ = some (.int .i64 s.master)) (first | exact ⟨q0 _ _ _, q1 _ _ _⟩ | exact ⟨k0 _ _, k1 _ _⟩ | go_keep) (fail)
  generalize hW : (((w.alloc _).alloc _).drewN _).alloc _ = W
  obtain ⟨hz, ha, hg, hc, hf⟩ := rbase B g s w HS.out _ _ _ _ _ _ _ _ _ _ W hW
  clear hW k0 k1 q0 q1 k2 k3
  have hlg := HS.out.lt
  have z0 := blk_cell hz 0
  have z1 := blk_cell hz 1
  have z2 := blk_cell hz 2
  have z3 := blk_cell hz 3
  have zf0 := blk_frozen hz 0
  have zf1 := blk_frozen hz 1
  have zf2 := blk_frozen hz 2
  have zf3 := blk_frozen hz 3
  have a0 := blk_cell ha 0
  have a1 := blk_cell ha 1
  have a2 := blk_cell ha 2
  have a3 := blk_cell ha 3
  have af0 := blk_frozen ha 0
  have g2 := blk_cell hg.1 2
  have g3 := blk_cell hg.1 3
  have gf2 := blk_frozen hg.1 2
  have gf3 := blk_frozen hg.1 3
  have d0 := blk_cell hf 0
  have d3 := blk_cell hf 3
  simp only [List.getElem?_toArray, List.getElem?_cons_zero, List.getElem?_cons_succ] at z0 z1 z2 z3 a0 a1 a2 a3 g2 g3 d0 d3
  have HF := Aside0.mk hf
  have HZ := Aside0.mk hz
  have HA := Aside0.mk ha
  have HG := Aside0.mk hg
  have HC := Aside0.mk hc
  clear hz ha hg hc hf
  rw [er, ep] at g3
  rw [er] at g2
  go_wp2
  go_quiet (fail)
  go_wp2
  generalize hX : ((W.setCell _ _).drewN _).setCell _ _ = X
  have hzX : X.heap[w.heap.size + 1]? = some (.cells #[.int .i64 0, .int .i64 0, .int .i64 0, .slice none 0 0] 48 (0, 0)) := by
    rw [← hX]; exact (Below.heap_setCell _ _ _ _ (show w.heap.size + 1 ≠ g by omega)).trans ((heap_drewN _ _ _).trans ((Below.heap_setCell _ _ _ _ (show w.heap.size + 1 ≠ w.heap.size + 1 + 1 by omega)).trans HZ.out))
  have haX : X.heap[w.heap.size + 1 + 1]? = some (.cells #[.int .i64 0, .int .i64 s.master, .int .i64 s.own, .slice none 0 0] 48 (0, 0)) := by
    rw [← hX]; exact (Below.heap_setCell _ _ _ _ (show w.heap.size + 1 + 1 ≠ g by omega)).trans ((heap_drewN _ _ _).trans (by have h := blk_set HA.out 0 (.int .i64 0); simpa using h))
  have hfX : X.heap[w.heap.size]? = some (.cells #[.int .i64 ctl, .int .i64 dest, .int .i64 src, .slice A n c] 48 (0, 0)) := by
    rw [← hX]; exact (Below.heap_setCell _ _ _ _ (show w.heap.size ≠ g by omega)).trans ((heap_drewN _ _ _).trans ((Below.heap_setCell _ _ _ _ (show w.heap.size ≠ w.heap.size + 1 + 1 by omega)).trans HF.out))
  have HgX := Aside0.mk (show IsRf B X g { s with expect := true } by rw [← hX]; exact ((HG.out.set (show g ≠ w.heap.size + 1 + 1 by omega) _).drewN _).flag er true)
  have HcX := Aside0.mk (show Chg g w X by rw [← hX]; exact ((HC.out.new (show w.heap.size ≤ w.heap.size + 1 + 1 by omega) _).drewN _).set 3 _)
  have HzX := Aside0.mk hzX
  have HaX := Aside0.mk haX
  have HfX := Aside0.mk hfX
  have hsz1 : w.heap.size + 1 < X.heap.size := blk_lt hzX
  clear hzX haX hfX hX z0 z1 z2 z3 zf0 zf1 zf2 zf3 a0 a1 a2 a3 g2 g3 af0 gf2 gf3 d0 d3
  have HZ1 := Aside0.mk (show HeldF (w.heap.size + 1) X X from ⟨Chg.refl _ _, _, _, _, _, HzX.out⟩)
  have HZ2 := Aside0.mk (show HeldF (w.heap.size + 1) X X.drew from ⟨(Chg.refl _ _).drewN 1, _, _, _, _, HzX.out⟩)
  have hgk : g ≠ w.heap.size + 1 := by omega
  have hdk : w.heap.size ≠ w.heap.size + 1 := by omega
  have hak : w.heap.size + 1 + 1 ≠ w.heap.size + 1 := by omega
  go_region_held3 (fun w' => Aside0 (HeldF (w.heap.size + 1) X w') ∧ w'.cell? ⟨w.heap.size, 3, none⟩ = some (.slice A n c) ∧ w'.cell? ⟨w.heap.size + 1 + 1, 0, none⟩ = some (.int .i64 0) ∧ w'.cell? ⟨w.heap.size + 1 + 1, 1, none⟩ = some (.int .i64 s.master) ∧ w'.cell? ⟨w.heap.size + 1 + 1, 2, none⟩ = some (.int .i64 s.own) ∧ w'.cell? ⟨w.heap.size + 1 + 1, 3, none⟩ = some (.slice none 0 0) ∧ w'.cell? ⟨w.heap.size + 1, 0, none⟩ = some (cellOf w' ⟨w.heap.size + 1, 0, none⟩) ∧ w'.cell? ⟨w.heap.size + 1, 1, none⟩ = some (cellOf w' ⟨w.heap.size + 1, 1, none⟩) ∧ w'.cell? ⟨w.heap.size + 1, 2, none⟩ = some (cellOf w' ⟨w.heap.size + 1, 2, none⟩) ∧ w'.cell? ⟨w.heap.size + 1, 3, none⟩ = some (cellOf w' ⟨w.heap.size + 1, 3, none⟩) ∧ w'.frozen? ⟨w.heap.size + 1, 0, none⟩ = false ∧ w'.frozen? ⟨w.heap.size + 1, 1, none⟩ = false ∧ w'.frozen? ⟨w.heap.size + 1, 2, none⟩ = false ∧ w'.frozen? ⟨w.heap.size + 1, 3, none⟩ = false)
    (first
      | exact factsT HfX.out HaX.out hdk hak HZ1.out
      | exact factsT HfX.out HaX.out hdk hak HZ2.out
      | exact factsT HfX.out HaX.out hdk hak (Aside0.out (by assumption))
      | exact factsT HfX.out HaX.out hdk hak (HeldF.four (Aside0.out (by assumption)) _ _ _ _))
    ((go_at_call 27; (with_reducible refine (copyBytes_any A n c l _ ?_ hsz).mono ?_); (exact readsF HR.out HcX.out (Nat.le_succ _) (by assumption)); rintro e w6 ⟨v6, rfl, ho6, hb7⟩; have hb8 : Aside0 (HeldF (w.heap.size + 1) X w6) := nextF (by assumption) hb7; have hpv := sizeF (X := X) (k := w.heap.size + 1) (by assumption); have HO6 := Aside0.mk ho6; clear ho6))
  go_wp2
  obtain ⟨hq6, x0, x1, x2, x3, hz6⟩ := hb8.out
  refine bodyPost_ret (results_cttt (p := 4) (u := 5) (v := 6) (x := 7) rfl _ _ (w.heap.size + 1) 48 #[.int .i64 0, .int .i64 s.master, .int .i64 s.own, .slice none 0 0] (0, 0) _ rfl (set_four hz6 _ _ _ _) Try.underlying48 rfl (by kernel_rfl)) rfl ⟨v6, by rw [ht.out]; rfl, ?_, ?_, ?_⟩
  · rw [ht.out]; exact own_four HO6.out hz6 (by decide) _ _ _ _ (by omega)
  · rw [ht.out]; exact (HgX.out.other hq6 hgk).four hgk _ _ _ _
  · exact (chg_new HcX.out (Nat.le_succ _) hq6).four (Nat.le_succ _) _ _ _ _
end Go.Proofs.Ytpepgblmcjgbgaa
