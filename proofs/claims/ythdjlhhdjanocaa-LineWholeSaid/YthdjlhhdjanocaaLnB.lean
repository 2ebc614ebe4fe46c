/- The line that fails: a frame is put. Conditions: the arguments read as data. -/
import Derived.Test.YthdjlhhdjanocaaLnA
namespace Go.Proofs.Ythdjlhhdjanocaa
open Go.RowKit Go.Proofs.YthdjlhhdjanocaaW.PrintWords
set_option linter.unusedVariables false
/-- The line's fault is taken. -/
theorem IsLn.zeroed {B g m : Nat} {w : World} {rv : Value} {s : LS} (h : IsLn B w g rv s) : IsLn B (((w.drewN m).setCell ⟨g, 0, none⟩ (.int .i64 0)).setCell ⟨g, 1, none⟩ (.int .i64 0)) g rv { s with k := 0, a := 0 } ∧ Chg g w (((w.drewN m).setCell ⟨g, 0, none⟩ (.int .i64 0)).setCell ⟨g, 1, none⟩ (.int .i64 0)) := by
  obtain ⟨hv, h1, hB, h3, h4⟩ := h
  have hc : Chg g w (((w.drewN m).setCell ⟨g, 0, none⟩ (.int .i64 0)).setCell ⟨g, 1, none⟩ (.int .i64 0)) := (((Chg.refl g w).drewN m).set 0 _).set 1 _
  refine ⟨⟨hv, ?_, hB, h3.line h1 hc, h4.line h1 hc⟩, hc⟩
  have hx := blk_set (blk_set (show (w.drewN m).heap[g]? = _ from h1) 0 (.int .i64 0)) 1 (.int .i64 0)
  simpa using hx
theorem own_base {B C : Nat} {w : World} {e : TypeId} {sz n : Nat} {v : Value} {xs : List Value} (h : w.ownsRow C e sz v n xs) (hB : B ≤ C) : w.ownsRow B e sz v n xs := by
  refine ⟨h.1, ?_⟩
  rcases h.2 with h2 | ⟨g, cap, cur, e1, hg, r⟩
  · exact .inl h2
  · exact .inr ⟨g, cap, cur, e1, Nat.le_trans hB hg, r⟩
theorem HeldB.keep {B g n C : Nat} {w w1 : World} {rv hv : Value} {o : Option (List Int)} {cs : Array Value} {ps : List Value} (h : HeldB B w hv o) (hg : w.heap[g]? = some (.cells cs 47 (0, 0))) (hr : w.ownsRow C 27 1 rv n ps) (hc : ChgL g rv w w1) : HeldB B w1 hv o := by
  cases o with
  | none => exact h
  | some l => exact ⟨h.1, h.2.keep hg hr hc⟩
/-- A frame more is ready. -/
theorem IsLn.push {B g n : Nat} {W w1 : World} {rv rv1 v : Value} {s : LS} {l : List Int} {ps : List (Value × List Int)} (hs : IsLn B W g rv s) (hps : s.r = ps.map (·.2)) (ho : W.ownsRow B 27 1 rv ps.length (ps.map (·.1))) (hall : ∀ p ∈ ps, OwnB B W p.1 p.2) (hv : OwnB B W v l)
    (hgr : W.grownBy w1 rv.ownBlock) (ho1 : w1.ownsRow B 27 1 rv1 n (ps.map (·.1) ++ [v])) (hat : rv1.ownBlock = rv.ownBlock ∨ ∃ b, rv1.ownBlock = some b ∧ W.heap.size ≤ b) :
    IsLn B (w1.setCell ⟨g, 2, none⟩ rv1) g rv1 { s with r := s.r ++ [l] } ∧ ChgL g rv W (w1.setCell ⟨g, 2, none⟩ rv1) ∧ Fresh W.heap.size rv rv1 := by
  obtain ⟨hv0, h1, hB, h3, h4⟩ := hs
  obtain ⟨hr1, hc1, hfr⟩ := pushed h1 ho hall hv hgr ho1 hat
  have hG1 := grown_line h1 ho hgr
  have hcg : Chg g w1 (w1.setCell ⟨g, 2, none⟩ rv1) := (Chg.refl g w1).set 2 _
  refine ⟨⟨hv0, ?_, hB, ?_, (h4.keep h1 ho hc1).line hG1 hcg⟩, hc1.trans hfr (ChgL.of_chg hcg), hfr⟩
  · have hx := blk_set hG1 2 rv1
    simpa using hx
  · show RowB B _ _ (s.r ++ [l])
    rw [hps]; exact hr1.line hG1 hcg
theorem freeL_any (B g : Nat) (rv : Value) (s : LS) (w : World) (hs : IsLn B w g rv s) (hl : s.r.length ≤ 1000000) (hBw : B ≤ w.heap.size) :
    Calls Try.prog 24 #[.pointer (some ⟨g, 0, none⟩)] w (FreePost B g rv (freeS s) w) := by
  cases hh : s.h with
  | none => have h := freeL_none B g rv s w hs hh; rwa [show freeS s = s by unfold freeS; rw [hh]]
  | some l => have h := freeL_some B g rv s l w hs hh hl hBw; rwa [show freeS s = { s with r := s.r ++ [l], h := none } by unfold freeS; rw [hh]]
def Held0 (p : Prop) : Prop := p
theorem hold0 {p : Prop} (h : Held0 p) : p := h
def PutPost (B g : Nat) (rv : Value) (s : LS) (w : World) (e : Ending) (w' : World) : Prop := e = .returned (.tuple #[]) ∧ ∃ rv', IsLn B w' g rv' s ∧ ChgL g rv w w' ∧ Fresh w.heap.size rv rv'
theorem put_close {g : Nat} {w w5 W w1 w8 : World} {rv rv1 rv8 : Value} (hb : Below w.heap.size w w5) (hz : Chg g w5 W) (hc : ChgL g rv W w1) (hf : Fresh W.heap.size rv rv1) (hc8 : ChgL g rv1 w1 w8) (hf8 : Fresh w1.heap.size rv1 rv8) :
    ChgL g rv w w8 ∧ Fresh w.heap.size rv rv8 :=
  ⟨(ChgL.of_below hb).trans (Fresh.refl _ _) ((ChgL.of_chg hz).trans (Fresh.refl _ _) (hc.trans hf hc8)), (Fresh.refl w.heap.size rv).trans (hf.trans hf8 hc.size) (Nat.le_trans hb.size hz.size)⟩
set_option maxHeartbeats 2000000 in
set_option maxRecDepth 100000 in
theorem putL_plain (B g : Nat) (rv : Value) (s : LS) (A : Option Addr) (n c : Nat) (l : List Int) (w : World) (hs : IsLn B w g rv s) (hr : ReadsInt w .u8 A n l) (hn : 0 < n) (hsz : n ≤ 1000000) (hlr : s.r.length ≤ 100000) (hBw : B ≤ w.heap.size)
    (k1 : (s.k == 1) = false) (k2 : (s.k == 2) = false) (k3 : (s.k == 3) = false) (k4 : (s.k == 4) = false) :
    Calls Try.prog 10 #[.pointer (some ⟨g, 0, none⟩), .slice A n c] w (PutPost B g rv (freeS { s with k := 0, a := 0, r := s.r ++ [l] }) w) := by
  have hsz : n ≤ 140737488355328 := by omega
  have hnl : l.length = n := hr.1
  have HS := Aside0.mk hs
  go_enter Try.func10, Try.ntmps10
  go_wp2_with fail
  (with_reducible refine (clone_any A n c l _ hr hsz).mono ?_)
  rintro _ w5 ⟨v5, rfl, ho5, hb5⟩
  have hs5 := hs.below hb5
  have hl5 := hs5.lt
  obtain ⟨A5, c5, rfl, hr5⟩ := own_reads ho5
  have HO5 := Aside0.mk (show w5.ownsRow w.heap.size 5 1 (.slice A5 n c5) l.length (nums .u8 l) by rw [← hnl] ; exact ho5)
  rw [hnl]
  have HS5 := Aside0.mk hs5
  have HB5 := Aside0.mk hb5
  clear ho5 hr5 hs hb5
  obtain ⟨hv, h1, hB, h3, h4⟩ := hs5
  obtain ⟨Ar, cr, rfl⟩ := h3.slice
  obtain ⟨Ah, ch, rfl, hAh⟩ := h4.slice
  have f0 := blk_frozen h1 0
  have f1 := blk_frozen h1 1
  have f2 := blk_frozen h1 2
  have f3 := blk_frozen h1 3
  have g0 := blk_cell h1 0
  have g1 := blk_cell h1 1
  have g2 := blk_cell h1 2
  have g3 := blk_cell h1 3
  have H1 := Aside0.mk h1
  have H3 := Aside0.mk h3
  have H4 := Aside0.mk h4
  simp only [List.getElem?_toArray, List.getElem?_cons_zero, List.getElem?_cons_succ] at g0 g1 g2 g3
  clear h1 h3 h4
  have hw8 : IntKind.i64.wrap (8 * (n : Int)) = 8 * (n : Int) := by rw [IntKind.wrap_i64]; omega
  have hz8 : ¬ (8 * (n : Int)) = 0 := by omega
  obtain ⟨ps, hps, hrow, hall⟩ := H3.out
  have HPS := Aside0.mk hps
  have hpl : ps.length ≤ 100000 := by have h := congrArg List.length hps; simp at h; omega
  have hBw5 : B ≤ w5.heap.size := Nat.le_trans hBw HB5.out.size
  have hz := fun m => (HS5.out.zeroed (m := m)).1
  have HZ := Aside0.mk hz
  have HZc := Aside0.mk (fun m => (HS5.out.zeroed (m := m)).2)
  have HRz := Aside0.mk (fun m => own_line (w1 := ((w5.drewN m).setCell ⟨g, 0, none⟩ (.int .i64 0)).setCell ⟨g, 1, none⟩ (.int .i64 0)) hrow H1.out (by decide) (HZc.out m))
  have HAz := Aside0.mk (fun m p hp => own_line (w1 := ((w5.drewN m).setCell ⟨g, 0, none⟩ (.int .i64 0)).setCell ⟨g, 1, none⟩ (.int .i64 0)) (hall p hp) H1.out (by decide) (HZc.out m))
  have HVz := Aside0.mk (fun m => own_line (w1 := ((w5.drewN m).setCell ⟨g, 0, none⟩ (.int .i64 0)).setCell ⟨g, 1, none⟩ (.int .i64 0)) (own_base HO5.out hBw) H1.out (by decide) (HZc.out m))
  clear hps hrow hall hz
  by_cases ha : s.a < 0
  all_goals
    go_wp2
    go_quiet (fail)
    go_wp2_with (at_builtin; refine hold0 ?_)
    unfold Held0
    refine print_append (w0 := w5) B rfl (.tmp 61) (.tmp 63) 22 27 (.slice none 0 0) 24 rfl Try.underlying22 info_sl rfl (by omega) (.slice Ar s.r.length cr) (ps.map (·.1)) (.slice A5 n c5) rfl (by simp [Act.eval]) rfl (by rw [List.length_map]; exact HRz.out _) ((HZc.out _).below hB hBw5) (Nat.le_trans hBw5 (HZc.out _).size) (by rw [List.length_map]; omega) ?_
    intro v1 w1 ho hb hg hat
    simp only [List.length_append, List.length_map, List.length_singleton] at ho
    obtain ⟨Av, cv, rfl⟩ := row_slice ho
    have hG1 := grown_line (HZ.out _).choose_spec.1 (HRz.out _) hg
    have q2 := blk_cell hG1 2
    have qf2 := blk_frozen hG1 2
    simp only [List.getElem?_toArray, List.getElem?_cons_zero, List.getElem?_cons_succ] at q2
    have HG1 := Aside0.mk hG1
    have HO1 := Aside0.mk ho
    have HGr := Aside0.mk hg
    have HAt := Aside0.mk hat
    clear hG1 ho hb hg hat
    obtain ⟨hpL, hpC, hpF⟩ := (HZ.out _).push HPS.out (HRz.out _) (HAz.out _) (HVz.out _) HGr.out HO1.out HAt.out
    have hB1 := Nat.le_trans (Nat.le_trans hBw5 (HZc.out _).size) hpC.size
    have HpC := Aside0.mk hpC
    have HpF := Aside0.mk hpF
    go_wp2_with fail
    (with_reducible refine (freeL_any B g _ _ _ hpL (by show (s.r ++ [l]).length ≤ _; simp; omega) hB1).mono ?_)
    rintro _ w8 ⟨rfl, rv8, hL8, hC8, hF8⟩
    have HE := Aside0.mk (put_close HB5.out (HZc.out _) HpC.out HpF.out hC8 hF8)
    have HL8 := Aside0.mk hL8
    clear hpL hpC hpF hL8 hC8 hF8
    go_wp2
    first | go_ret | go_end0
    exact ⟨rfl, rv8, HL8.out, HE.out.1, HE.out.2⟩
set_option maxHeartbeats 2000000 in
set_option maxRecDepth 100000 in
theorem putL_lose (B g : Nat) (rv : Value) (s : LS) (A : Option Addr) (n c : Nat) (l : List Int) (w : World) (hs : IsLn B w g rv s) (hr : ReadsInt w .u8 A n l) (hn : 0 < n) (hsz : n ≤ 1000000) (hlr : s.r.length ≤ 100000) (hBw : B ≤ w.heap.size)
    (k1 : (s.k == 1) = true) (k2 : (s.k == 2) = false) (k3 : (s.k == 3) = false) (k4 : (s.k == 4) = false) :
    Calls Try.prog 10 #[.pointer (some ⟨g, 0, none⟩), .slice A n c] w (PutPost B g rv { s with k := 0, a := 0 } w) := by
  have hsz : n ≤ 140737488355328 := by omega
  have hnl : l.length = n := hr.1
  have HS := Aside0.mk hs
  go_enter Try.func10, Try.ntmps10
  go_wp2_with fail
  (with_reducible refine (clone_any A n c l _ hr hsz).mono ?_)
  rintro _ w5 ⟨v5, rfl, ho5, hb5⟩
  have hs5 := hs.below hb5
  have hl5 := hs5.lt
  obtain ⟨A5, c5, rfl, hr5⟩ := own_reads ho5
  have HO5 := Aside0.mk (show w5.ownsRow w.heap.size 5 1 (.slice A5 n c5) l.length (nums .u8 l) by rw [← hnl] ; exact ho5)
  rw [hnl]
  have HS5 := Aside0.mk hs5
  have HB5 := Aside0.mk hb5
  clear ho5 hr5 hs hb5
  obtain ⟨hv, h1, hB, h3, h4⟩ := hs5
  obtain ⟨Ar, cr, rfl⟩ := h3.slice
  obtain ⟨Ah, ch, rfl, hAh⟩ := h4.slice
  have f0 := blk_frozen h1 0
  have f1 := blk_frozen h1 1
  have f2 := blk_frozen h1 2
  have f3 := blk_frozen h1 3
  have g0 := blk_cell h1 0
  have g1 := blk_cell h1 1
  have g2 := blk_cell h1 2
  have g3 := blk_cell h1 3
  have H1 := Aside0.mk h1
  have H3 := Aside0.mk h3
  have H4 := Aside0.mk h4
  simp only [List.getElem?_toArray, List.getElem?_cons_zero, List.getElem?_cons_succ] at g0 g1 g2 g3
  clear h1 h3 h4
  have hw8 : IntKind.i64.wrap (8 * (n : Int)) = 8 * (n : Int) := by rw [IntKind.wrap_i64]; omega
  have hz8 : ¬ (8 * (n : Int)) = 0 := by omega
  by_cases ha : s.a < 0
  all_goals
    go_wp2
    go_quiet (fail)
    go_wp2
    go_end0
    have hz := HS5.out.zeroed (m := nq)
    exact ⟨rfl, _, hz.1, (ChgL.of_below HB5.out).trans (Fresh.refl _ _) (ChgL.of_chg hz.2), Fresh.refl _ _⟩
set_option maxHeartbeats 2000000 in
set_option maxRecDepth 100000 in
theorem putL_hold (B g : Nat) (rv : Value) (s : LS) (A : Option Addr) (n c : Nat) (l : List Int) (w : World) (hs : IsLn B w g rv s) (hr : ReadsInt w .u8 A n l) (hn : 0 < n) (hsz : n ≤ 1000000) (hlr : s.r.length ≤ 100000) (hBw : B ≤ w.heap.size)
    (k1 : (s.k == 1) = false) (k2 : (s.k == 2) = false) (k3 : (s.k == 3) = false) (k4 : (s.k == 4) = true) :
    Calls Try.prog 10 #[.pointer (some ⟨g, 0, none⟩), .slice A n c] w (PutPost B g rv { freeS { s with k := 0, a := 0 } with h := some l } w) := by
  have hsz : n ≤ 140737488355328 := by omega
  have hnl : l.length = n := hr.1
  have HS := Aside0.mk hs
  go_enter Try.func10, Try.ntmps10
  go_wp2_with fail
  (with_reducible refine (clone_any A n c l _ hr hsz).mono ?_)
  rintro _ w5 ⟨v5, rfl, ho5, hb5⟩
  have hs5 := hs.below hb5
  have hl5 := hs5.lt
  obtain ⟨A5, c5, rfl, hr5⟩ := own_reads ho5
  have HO5 := Aside0.mk (show w5.ownsRow w.heap.size 5 1 (.slice A5 n c5) l.length (nums .u8 l) by rw [← hnl] ; exact ho5)
  rw [hnl]
  have HS5 := Aside0.mk hs5
  have HB5 := Aside0.mk hb5
  clear ho5 hr5 hs hb5
  obtain ⟨hv, h1, hB, h3, h4⟩ := hs5
  obtain ⟨Ar, cr, rfl⟩ := h3.slice
  obtain ⟨Ah, ch, rfl, hAh⟩ := h4.slice
  have f0 := blk_frozen h1 0
  have f1 := blk_frozen h1 1
  have f2 := blk_frozen h1 2
  have f3 := blk_frozen h1 3
  have g0 := blk_cell h1 0
  have g1 := blk_cell h1 1
  have g2 := blk_cell h1 2
  have g3 := blk_cell h1 3
  have H1 := Aside0.mk h1
  have H3 := Aside0.mk h3
  have H4 := Aside0.mk h4
  simp only [List.getElem?_toArray, List.getElem?_cons_zero, List.getElem?_cons_succ] at g0 g1 g2 g3
  clear h1 h3 h4
  have hw8 : IntKind.i64.wrap (8 * (n : Int)) = 8 * (n : Int) := by rw [IntKind.wrap_i64]; omega
  have hz8 : ¬ (8 * (n : Int)) = 0 := by omega
  obtain ⟨ps, hps, hrow, hall⟩ := H3.out
  have HPS := Aside0.mk hps
  have hpl : ps.length ≤ 100000 := by have h := congrArg List.length hps; simp at h; omega
  have hBw5 : B ≤ w5.heap.size := Nat.le_trans hBw HB5.out.size
  have hz := fun m => (HS5.out.zeroed (m := m)).1
  have HZ := Aside0.mk hz
  have HZc := Aside0.mk (fun m => (HS5.out.zeroed (m := m)).2)
  have HRz := Aside0.mk (fun m => own_line (w1 := ((w5.drewN m).setCell ⟨g, 0, none⟩ (.int .i64 0)).setCell ⟨g, 1, none⟩ (.int .i64 0)) hrow H1.out (by decide) (HZc.out m))
  have HAz := Aside0.mk (fun m p hp => own_line (w1 := ((w5.drewN m).setCell ⟨g, 0, none⟩ (.int .i64 0)).setCell ⟨g, 1, none⟩ (.int .i64 0)) (hall p hp) H1.out (by decide) (HZc.out m))
  have HVz := Aside0.mk (fun m => own_line (w1 := ((w5.drewN m).setCell ⟨g, 0, none⟩ (.int .i64 0)).setCell ⟨g, 1, none⟩ (.int .i64 0)) (own_base HO5.out hBw) H1.out (by decide) (HZc.out m))
  clear hps hrow hall hz
  by_cases ha : s.a < 0
  all_goals
    go_wp2
    go_quiet (fail)
    go_wp2_with fail
    (with_reducible refine (freeL_any B g _ _ _ (HZ.out _) (by show s.r.length ≤ _; omega) (Nat.le_trans hBw5 (HZc.out _).size)).mono ?_)
    rintro _ w8 ⟨rfl, rv8, hL8, hC8, hF8⟩
    have ho8 := (HZ.out _).keep hC8 (HVz.out _)
    have hE := put_close HB5.out (HZc.out _) (ChgL.refl g _ _) (Fresh.refl _ _) hC8 hF8
    obtain ⟨hv8, h81, hB8, h83, h84⟩ := hL8
    have q3 := blk_cell h81 3
    have qf3 := blk_frozen h81 3
    simp only [List.getElem?_toArray, List.getElem?_cons_zero, List.getElem?_cons_succ] at q3
    have H81 := Aside0.mk h81
    have H83 := Aside0.mk h83
    have HO8 := Aside0.mk ho8
    have HE := Aside0.mk hE
    clear h81 h83 h84 ho8 hE hC8 hF8
    go_wp2
    go_end0
    have hcg : Chg g w8 (w8.setCell ⟨g, 3, none⟩ (.slice A5 n c5)) := (Chg.refl g w8).set 3 _
    refine ⟨rfl, rv8, ⟨.slice A5 n c5, ?_, hB8, H83.out.line H81.out hcg, ⟨by omega, own_line HO8.out H81.out (by decide) hcg⟩⟩, HE.out.1.trans HE.out.2 (ChgL.of_chg hcg), HE.out.2⟩
    have hx := blk_set H81.out 3 (.slice A5 n c5)
    simpa using hx
end Go.Proofs.Ythdjlhhdjanocaa
