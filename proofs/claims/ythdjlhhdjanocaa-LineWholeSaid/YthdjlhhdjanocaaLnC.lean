/- The line that fails: a frame that comes twice, one whose bit turns; any frame. Conditions: the arguments read as data. -/
import Derived.Test.YthdjlhhdjanocaaLnB
namespace Go.Proofs.Ythdjlhhdjanocaa
open Go.RowKit Go.Proofs.YthdjlhhdjanocaaW.PrintWords
set_option linter.unusedVariables false
theorem own_reads_of {w : World} {B n c : Nat} {A : Option Addr} {l : List Int} (h : w.ownsRow B 5 1 (.slice A n c) n (nums .u8 l)) : ReadsInt w .u8 A n l := by
  obtain ⟨A1, c1, he, hr⟩ := own_reads h
  injection he with e1 e2 e3
  rw [e1]; exact hr
theorem zeroed1 {w : World} {g : Nat} {x0 x1 x2 x3 : Value} {t : TypeId} (h : w.heap[g]? = some (.cells #[x0, x1, x2, x3] t (0, 0))) (m : Nat) : (((w.drewN m).setCell ⟨g, 0, none⟩ (.int .i64 0)).setCell ⟨g, 1, none⟩ (.int .i64 0)).heap[g]? = some (.cells #[.int .i64 0, .int .i64 0, x2, x3] t (0, 0)) := by
  have hx := blk_set (blk_set (show (w.drewN m).heap[g]? = _ from h) 0 (.int .i64 0)) 1 (.int .i64 0)
  simpa using hx
set_option maxHeartbeats 2000000 in
set_option maxRecDepth 100000 in
theorem putL_twice (B g : Nat) (rv : Value) (s : LS) (A : Option Addr) (n c : Nat) (l : List Int) (w : World) (hs : IsLn B w g rv s) (hr : ReadsInt w .u8 A n l) (hn : 0 < n) (hsz : n ≤ 1000000) (hlr : s.r.length ≤ 100000) (hBw : B ≤ w.heap.size)
    (k1 : (s.k == 1) = false) (k2 : (s.k == 2) = false) (k3 : (s.k == 3) = true) (k4 : (s.k == 4) = false) :
    Calls Try.prog 10 #[.pointer (some ⟨g, 0, none⟩), .slice A n c] w (PutPost B g rv (freeS { s with k := 0, a := 0, r := s.r ++ [l] ++ [l] }) w) := by
  have hsz : n ≤ 140737488355328 := by omega
  have hnl : l.length = n := hr.1
  have HS := Aside0.mk hs
  go_enter Try.func10, Try.ntmps10
  go_wp2_with fail
  (with_reducible refine (clone_any A n c l _ hr hsz).mono ?_)
  rintro _ w5 ⟨v5, rfl, ho5, hb5⟩
  have hs5 := hs.below hb5
  have hl5 := hs5.lt
  obtain ⟨A5, c5, rfl, hr5⟩ := own_reads ho5
  have HO5 := Aside0.mk (show w5.ownsRow w.heap.size 5 1 (.slice A5 n c5) l.length (nums .u8 l) by rw [← hnl] ; exact ho5)
  rw [hnl]
  have HS5 := Aside0.mk hs5
  have HB5 := Aside0.mk hb5
  clear ho5 hr5 hs hb5
  obtain ⟨hv, h1, hB, h3, h4⟩ := hs5
  obtain ⟨Ar, cr, rfl⟩ := h3.slice
  obtain ⟨Ah, ch, rfl, hAh⟩ := h4.slice
  have f0 := blk_frozen h1 0
  have f1 := blk_frozen h1 1
  have f2 := blk_frozen h1 2
  have f3 := blk_frozen h1 3
  have g0 := blk_cell h1 0
  have g1 := blk_cell h1 1
  have g2 := blk_cell h1 2
  have g3 := blk_cell h1 3
  have H1 := Aside0.mk h1
  have H3 := Aside0.mk h3
  have H4 := Aside0.mk h4
  simp only [List.getElem?_toArray, List.getElem?_cons_zero, List.getElem?_cons_succ] at g0 g1 g2 g3
  clear h1 h3 h4
  have hw8 : IntKind.i64.wrap (8 * (n : Int)) = 8 * (n : Int) := by rw [IntKind.wrap_i64]; omega
  have hz8 : ¬ (8 * (n : Int)) = 0 := by omega
  obtain ⟨ps, hps, hrow, hall⟩ := H3.out
  have HPS := Aside0.mk hps
  have hpl : ps.length ≤ 100000 := by have h := congrArg List.length hps; simp at h; omega
  have hBw5 : B ≤ w5.heap.size := Nat.le_trans hBw HB5.out.size
  have hz := fun m => (HS5.out.zeroed (m := m)).1
  have HZ := Aside0.mk hz
  have HZc := Aside0.mk (fun m => (HS5.out.zeroed (m := m)).2)
  have HRz := Aside0.mk (fun m => own_line (w1 := ((w5.drewN m).setCell ⟨g, 0, none⟩ (.int .i64 0)).setCell ⟨g, 1, none⟩ (.int .i64 0)) hrow H1.out (by decide) (HZc.out m))
  have HAz := Aside0.mk (fun m p hp => own_line (w1 := ((w5.drewN m).setCell ⟨g, 0, none⟩ (.int .i64 0)).setCell ⟨g, 1, none⟩ (.int .i64 0)) (hall p hp) H1.out (by decide) (HZc.out m))
  have HVz := Aside0.mk (fun m => own_line (w1 := ((w5.drewN m).setCell ⟨g, 0, none⟩ (.int .i64 0)).setCell ⟨g, 1, none⟩ (.int .i64 0)) (own_base HO5.out hBw) H1.out (by decide) (HZc.out m))
  clear hps hrow hall hz
  by_cases ha : s.a < 0
  all_goals
    go_wp2
    go_quiet (fail)
    go_wp2_with fail
    generalize hX : ((w5.drewN _).setCell _ _).setCell _ _ = X
    have HXL := Aside0.mk (show IsLn B X g (.slice Ar s.r.length cr) { s with k := 0, a := 0 } by rw [← hX]; exact HZ.out _)
    have HXC := Aside0.mk (show Chg g w5 X by rw [← hX]; exact HZc.out _)
    have HXR := Aside0.mk (show X.ownsRow B 27 1 (.slice Ar s.r.length cr) ps.length (ps.map (·.1)) by rw [← hX]; exact HRz.out _)
    have HXA := Aside0.mk (show ∀ p ∈ ps, OwnB B X p.1 p.2 by rw [← hX]; exact HAz.out _)
    have HXV := Aside0.mk (show OwnB B X (.slice A5 n c5) l by rw [← hX]; exact HVz.out _)
    have HXr := Aside0.mk (show ReadsInt X .u8 A5 n l from by have h := HXV.out; unfold OwnB at h; rw [hnl] at h; exact own_reads_of h)
    have HXd := Aside0.mk (show ReadsInt X.drew .u8 A5 n l from HXr.out)
    have hX1 : X.heap[g]? = some (.cells #[.int .i64 0, .int .i64 0, .slice Ar s.r.length cr, .slice Ah (s.h.getD []).length ch] 47 (0, 0)) := by rw [← hX]; exact zeroed1 H1.out _
    have hXg : g < X.heap.size := blk_lt hX1
    have hBX : B ≤ X.heap.size := Nat.le_trans hBw5 HXC.out.size
    have x2 := blk_cell hX1 2
    have xf2 := blk_frozen hX1 2
    simp only [List.getElem?_toArray, List.getElem?_cons_zero, List.getElem?_cons_succ] at x2
    have HX1 := Aside0.mk hX1
    clear hX hX1 g0 g1 g2 g3 f0 f1 f2 f3
    go_region_law (first
      | ((refine step_append_cells (w0 := w5) B (by rfl) (.tmp 50) (.tmp 53) 22 27 (.slice none 0 0) 1 24 rfl Try.underlying22 info_sl rfl (by omega) (by omega) (.slice Ar s.r.length cr) ps.length (ps.map (·.1)) [.slice A6 n c6] rfl rfl rfl (by simp [Value.oneCell']) HR6.out HB56.out hB6 (by omega) ?_); intro v1 w1 ho hb hg hat; obtain ⟨Av, cv, rfl⟩ := row_slice ho; have hG1 := grown_line H61.out HR6.out hg; have q2 := blk_cell hG1 2; have qf2 := blk_frozen hG1 2; simp only [List.getElem?_toArray, List.getElem?_cons_zero, List.getElem?_cons_succ] at q2; have HG1 := Aside0.mk hG1; have HO1 := Aside0.mk ho; have HGr := Aside0.mk hg; have HAt := Aside0.mk hat; clear hG1 ho hb hg hat)
      | (go_simp; go_at_call 23; (with_reducible refine (clone_any A5 n c5 l _ HXd.out hsz).mono ?_); rintro e w6 ⟨v6, rfl, ho6, hb6⟩; obtain ⟨A6, c6, rfl, hr6⟩ := own_reads ho6; rw [hnl] at ho6 ⊢; have h61 := blk_below (show X.drew.heap[g]? = _ from HX1.out) hb6; have y2 := blk_cell h61 2; simp only [List.getElem?_toArray, List.getElem?_cons_zero, List.getElem?_cons_succ] at y2; have yA2 : ∀ o, (w6.alloc o).cell? ⟨g, 2, none⟩ = some (.slice Ar s.r.length cr) := fun o => pw_cell_below (below_alloc (Below.refl _ _) _) y2; have H61 := Aside0.mk h61; have HR6 := Aside0.mk (own_below' (show X.drew.ownsRow B 27 1 (.slice Ar s.r.length cr) ps.length (ps.map (·.1)) from HXR.out) hb6); have HB56 := Aside0.mk ((HXC.out.below hB hBw5).trans ((below_drew (Below.refl _ _)).trans (hb6.mono hBX))); have hB6 : B ≤ w6.heap.size := Nat.le_trans hBX hb6.size; have HO6 := Aside0.mk ho6; have HB6 := Aside0.mk hb6; clear h61 ho6 hr6 hb6))
    all_goals
      skip
      have hb56 := HB6.out
      have hb6' : Below X.heap.size X w6 := (below_drew (Below.refl _ _)).trans hb56
      obtain ⟨hpL, hpC, hpF⟩ := (HXL.out.below hb6').push HPS.out HR6.out (fun p hp => own_below' (HXA.out p hp) hb6') (own_base (by rw [hnl]; exact HO6.out) hBX) HGr.out HO1.out HAt.out
      have hV1 := (HXL.out.below hb6').keep hpC (own_below' HXV.out hb6')
      have hpC2 := ((ChgL.of_chg HXC.out).trans (Fresh.refl _ _) (ChgL.of_below hb6')).trans (Fresh.refl _ _) hpC
      have hpF2 := (Fresh.refl w5.heap.size _).trans hpF (Nat.le_trans HXC.out.size hb6'.size)
      have hB1 := Nat.le_trans (Nat.le_trans hBX hb6'.size) hpC.size
      clear hpC hpF hb56 hb6' HG1 q2 qf2 HO1 HGr HAt H61 yA2 y2
      generalize w1.setCell _ _ = W1 at hpL hV1 hpC2 hB1 ⊢
      have HpC := Aside0.mk hpC2
      have HpF := Aside0.mk hpF2
      have HV1 := Aside0.mk hV1
      have HL1 := Aside0.mk hpL
      clear hpC2 hpF2 hV1
      obtain ⟨hv1, t1, _, t3, _⟩ := hpL
      obtain ⟨ps2, hps2, hrow2, hall2⟩ := t3
      have z2 := blk_cell t1 2
      have zf2 := blk_frozen t1 2
      simp only [List.getElem?_toArray, List.getElem?_cons_zero, List.getElem?_cons_succ] at z2
      have HT1 := Aside0.mk t1
      have HPS2 := Aside0.mk hps2
      have HR2 := Aside0.mk hrow2
      have HA2 := Aside0.mk hall2
      have hpl2 : ps2.length ≤ 100001 := by have h := congrArg List.length hps2; simp at h; omega
      clear t1 hps2 hrow2 hall2
      go_wp2_with (at_builtin; refine hold0 ?_)
      unfold Held0
      refine print_append (w0 := w5) B rfl (.tmp 61) (.tmp 63) 22 27 (.slice none 0 0) 24 rfl Try.underlying22 info_sl rfl (by omega) (.slice Av (ps.length + 1) cv) (ps2.map (·.1)) (.slice A5 n c5) rfl rfl rfl (by rw [List.length_map]; exact HR2.out) (HpC.out.below hB (RowB.ge ⟨ps, rfl, HXR.out, HXA.out⟩) hBw5) hB1 (by rw [List.length_map]; omega) ?_
      intro v2 w2 ho hb hg hat
      simp only [List.length_append, List.length_map, List.length_singleton] at ho
      obtain ⟨Av2, cv2, rfl⟩ := row_slice ho
      have hG2 := grown_line HT1.out HR2.out hg
      have q2 := blk_cell hG2 2
      have qf2 := blk_frozen hG2 2
      simp only [List.getElem?_toArray, List.getElem?_cons_zero, List.getElem?_cons_succ] at q2
      have HO2 := Aside0.mk ho
      have HGr2 := Aside0.mk hg
      have HAt2 := Aside0.mk hat
      clear hG2 ho hb hg hat
      obtain ⟨hqL, hqC, hqF⟩ := HL1.out.push HPS2.out HR2.out HA2.out HV1.out HGr2.out HO2.out HAt2.out
      have hB2 := Nat.le_trans hB1 hqC.size
      have HqC := Aside0.mk (HpC.out.trans HpF.out hqC)
      have HqF := Aside0.mk (HpF.out.trans hqF HpC.out.size)
      go_wp2_with fail
      (with_reducible refine (freeL_any B g _ _ _ hqL (by show (s.r ++ [l] ++ [l]).length ≤ _; simp; omega) hB2).mono ?_)
      rintro _ w8 ⟨rfl, rv8, hL8, hC8, hF8⟩
      have HE := Aside0.mk (put_close HB5.out (Chg.refl g w5) HqC.out HqF.out hC8 hF8)
      have HL8 := Aside0.mk hL8
      clear hqL hqC hqF hL8 hC8 hF8
      go_wp2
      first | go_ret | go_end0
      exact ⟨rfl, rv8, HL8.out, HE.out.1, HE.out.2⟩
end Go.Proofs.Ythdjlhhdjanocaa
