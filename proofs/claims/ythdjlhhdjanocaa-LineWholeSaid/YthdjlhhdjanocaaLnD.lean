/- The line that fails: a frame whose bit turns; any frame. Conditions: the arguments read as data. -/
import Derived.Test.YthdjlhhdjanocaaLnC
namespace Go.Proofs.Ythdjlhhdjanocaa
open Go.RowKit Go.Proofs.YthdjlhhdjanocaaW.PrintWords
set_option linter.unusedVariables false
theorem IsLn.turned {B g : Nat} {w W : World} {rv : Value} {s : LS} (h : IsLn B w g rv s) (hc : Chg g w W) (k a : Int) (hW : ∀ hv, w.heap[g]? = some (.cells #[.int .i64 s.k, .int .i64 s.a, rv, hv] 47 (0, 0)) → W.heap[g]? = some (.cells #[.int .i64 k, .int .i64 a, rv, hv] 47 (0, 0))) : IsLn B W g rv { s with k := k, a := a } := by
  obtain ⟨hv, h1, hB, h3, h4⟩ := h
  exact ⟨hv, hW hv h1, hB, h3.line h1 hc, h4.line h1 hc⟩
/-- Which bit turns. -/
def bitOf (a : Int) (n : Nat) : Nat := ((if a < 0 then 0 else a) % (8 * (n : Int))).toNat
def flipB (l : List Int) (b : Nat) : List Int := l.set (b / 8) (bits .xor .u8 (rd l ((b / 8 : Nat) : Int)) (2 ^ (b % 8) % 256))
set_option maxHeartbeats 2000000 in
set_option maxRecDepth 100000 in
theorem putL_flip (B g : Nat) (rv : Value) (s : LS) (A : Option Addr) (n c : Nat) (l : List Int) (w : World) (hs : IsLn B w g rv s) (hr : ReadsInt w .u8 A n l) (hn : 0 < n) (hsz : n ≤ 1000000) (hlr : s.r.length ≤ 100000) (hBw : B ≤ w.heap.size)
    (k1 : (s.k == 1) = false) (k2 : (s.k == 2) = true) (k3 : (s.k == 3) = false) (k4 : (s.k == 4) = false) :
    Calls Try.prog 10 #[.pointer (some ⟨g, 0, none⟩), .slice A n c] w (PutPost B g rv (freeS { s with k := 0, a := 0, r := s.r ++ [flipB l (bitOf s.a n)] }) w) := by
  have hsz : n ≤ 140737488355328 := by omega
  have hnl : l.length = n := hr.1
  have HS := Aside0.mk hs
  go_enter Try.func10, Try.ntmps10
  go_wp2_with fail
  (with_reducible refine (clone_any A n c l _ hr hsz).mono ?_)
  rintro _ w5 ⟨v5, rfl, ho5, hb5⟩
  have hs5 := hs.below hb5
  have hl5 := hs5.lt
  obtain ⟨A5, c5, rfl, hr5⟩ := own_reads ho5
  have HO5 := Aside0.mk (show w5.ownsRow w.heap.size 5 1 (.slice A5 n c5) l.length (nums .u8 l) by rw [← hnl] ; exact ho5)
  rw [hnl]
  have HS5 := Aside0.mk hs5
  have HB5 := Aside0.mk hb5
  clear ho5 hr5 hs hb5
  obtain ⟨hv, h1, hB, h3, h4⟩ := hs5
  obtain ⟨Ar, cr, rfl⟩ := h3.slice
  obtain ⟨Ah, ch, rfl, hAh⟩ := h4.slice
  have f0 := blk_frozen h1 0
  have f1 := blk_frozen h1 1
  have f2 := blk_frozen h1 2
  have f3 := blk_frozen h1 3
  have g0 := blk_cell h1 0
  have g1 := blk_cell h1 1
  have g2 := blk_cell h1 2
  have g3 := blk_cell h1 3
  have H1 := Aside0.mk h1
  have H3 := Aside0.mk h3
  have H4 := Aside0.mk h4
  simp only [List.getElem?_toArray, List.getElem?_cons_zero, List.getElem?_cons_succ] at g0 g1 g2 g3
  clear h1 h3 h4
  have hw8 : IntKind.i64.wrap (8 * (n : Int)) = 8 * (n : Int) := by rw [IntKind.wrap_i64]; omega
  have hz8 : ¬ (8 * (n : Int)) = 0 := by omega
  have HO5n := Aside0.mk (show w5.ownsRow w.heap.size 5 1 (.slice A5 n c5) n (nums .u8 l) by have h := HO5.out; rw [hnl] at h; exact h)
  obtain ⟨ps, hps, hrow, hall⟩ := H3.out
  have HPS := Aside0.mk hps
  have hpl : ps.length ≤ 100000 := by have h := congrArg List.length hps; simp at h; omega
  have hBw5 : B ≤ w5.heap.size := Nat.le_trans hBw HB5.out.size
  have hz := fun m => (HS5.out.zeroed (m := m)).1
  have HZ := Aside0.mk hz
  have HZc := Aside0.mk (fun m => (HS5.out.zeroed (m := m)).2)
  have HRz := Aside0.mk (fun m => own_line (w1 := ((w5.drewN m).setCell ⟨g, 0, none⟩ (.int .i64 0)).setCell ⟨g, 1, none⟩ (.int .i64 0)) hrow H1.out (by decide) (HZc.out m))
  have HAz := Aside0.mk (fun m p hp => own_line (w1 := ((w5.drewN m).setCell ⟨g, 0, none⟩ (.int .i64 0)).setCell ⟨g, 1, none⟩ (.int .i64 0)) (hall p hp) H1.out (by decide) (HZc.out m))
  have HVz := Aside0.mk (fun m => own_line (w1 := ((w5.drewN m).setCell ⟨g, 0, none⟩ (.int .i64 0)).setCell ⟨g, 1, none⟩ (.int .i64 0)) (own_base HO5.out hBw) H1.out (by decide) (HZc.out m))
  clear hps hrow hall hz
  by_cases ha : s.a < 0
  · have hbf : bitOf s.a n = 0 := by unfold bitOf; rw [if_pos ha]; simp
    go_wp2
    go_quiet (fail)
    go_wp2_with fail
    generalize hX : ((w5.drewN _).setCell _ _).setCell _ _ = X
    have HXL := Aside0.mk (show IsLn B X g (.slice Ar s.r.length cr) { s with k := 0, a := 0 } by rw [← hX]; exact HZ.out _)
    have HXC := Aside0.mk (show Chg g w5 X by rw [← hX]; exact HZc.out _)
    have HXR := Aside0.mk (show X.ownsRow B 27 1 (.slice Ar s.r.length cr) ps.length (ps.map (·.1)) by rw [← hX]; exact HRz.out _)
    have HXA := Aside0.mk (show ∀ p ∈ ps, OwnB B X p.1 p.2 by rw [← hX]; exact HAz.out _)
    have HXV := Aside0.mk (show X.ownsRow w.heap.size 5 1 (.slice A5 n c5) n (nums .u8 l) by rw [← hX]; exact own_line HO5n.out H1.out (by decide) (HZc.out _))
    have HXz := Aside0.mk (show ∀ hv, w5.heap[g]? = some (.cells #[.int .i64 s.k, .int .i64 s.a, .slice Ar s.r.length cr, hv] 47 (0, 0)) → X.heap[g]? = some (.cells #[.int .i64 0, .int .i64 0, .slice Ar s.r.length cr, hv] 47 (0, 0)) by intro hv h; rw [← hX]; exact zeroed1 h _)
    have hX1 : X.heap[g]? = some (.cells #[.int .i64 0, .int .i64 0, .slice Ar s.r.length cr, .slice Ah (s.h.getD []).length ch] 47 (0, 0)) := by rw [← hX]; exact zeroed1 H1.out _
    have hXg : g < X.heap.size := blk_lt hX1
    have hBX : B ≤ X.heap.size := Nat.le_trans hBw5 HXC.out.size
    have HX1 := Aside0.mk hX1
    clear hX hX1 g0 g1 g2 g3 f0 f1 f2 f3
    obtain ⟨g5, cap5, e5, hgb, hgl⟩ := HXV.out.form (by omega)
    injection e5 with e5a _ e5c
    subst e5a e5c
    have hn0 : (0 : Int) < (n : Int) := by omega
    have hw0 : IntKind.i64.wrap 0 = 0 := by decide
    have hcell := own_at HXV.out ((0 : Nat) : Int) (by omega) (by omega)
    rw [Int.toNat_natCast] at hcell
    obtain ⟨hcd, hfr⟩ := hcell
    obtain ⟨x, hx⟩ : ∃ x, rd l ((0 : Nat) : Int) = x := ⟨_, rfl⟩
    rw [hx] at hcd
    have hfl : flipB l 0 = l.set 0 (bits .xor .u8 x 1) := by unfold flipB; rw [show (0 : Nat) / 8 = 0 from rfl, hx]; rfl
    have hne5 : g5 ≠ g := by have := HS.out.lt; omega
    have xg2 : ∀ u, (X.setCell ⟨g5, 0, none⟩ u).cell? ⟨g, 2, none⟩ = some (.slice Ar s.r.length cr) := fun u => blk_cell ((Below.heap_setCell _ _ _ _ (Ne.symm hne5)).trans HX1.out) 2
    have xf2 : ∀ u, (X.setCell ⟨g5, 0, none⟩ u).frozen? ⟨g, 2, none⟩ = false := fun u => blk_frozen ((Below.heap_setCell _ _ _ _ (Ne.symm hne5)).trans HX1.out) 2
    have HWC := Aside0.mk (show Chg g w (X.setCell ⟨g5, 0, none⟩ (.int .u8 (bits .xor .u8 x 1))).drew from (((Chg.of_below HB5.out).trans HXC.out).new (p := ⟨g5, 0, none⟩) hgb _).drewN 1)
    have HWL := Aside0.mk (show IsLn B (X.setCell ⟨g5, 0, none⟩ (.int .u8 (bits .xor .u8 x 1))).drew g (.slice Ar s.r.length cr) { s with k := 0, a := 0 } from HS.out.turned HWC.out 0 0 (fun hv h => (Below.heap_setCell _ _ _ _ (Ne.symm hne5)).trans (HXz.out _ (blk_below h HB5.out))))
    have hst := own_store HXV.out ((0 : Nat) : Int) (bits .xor .u8 x 1)
    rw [Int.toNat_natCast] at hst
    have HWV := Aside0.mk (show (X.setCell ⟨g5, 0, none⟩ (.int .u8 (bits .xor .u8 x 1))).drew.ownsRow B 5 1 (.slice (some ⟨g5, 0, none⟩) n c5) n (nums .u8 (l.set 0 (bits .xor .u8 x 1))) from own_base hst.1 hBw)
    clear hst
    go_still_tail 9, (by kernel_rfl)
    change wpList _ _ _ _ _ X.drew
    go_wp2_with (at_builtin; refine hold0 ?_)
    unfold Held0
    have hpC2 := HWC.out
    have hpL := HWL.out
    have hV1 := HWV.out
    clear xg2 xf2 HWC HWL HWV
    have hWs : (X.setCell ⟨g5, 0, none⟩ (.int .u8 (bits .xor .u8 x 1))).drew.heap.size = X.heap.size := by simp
    change wpList _ _ _ _ _ ((X.setCell ⟨g5, 0, none⟩ (.int .u8 (bits .xor .u8 x 1))).drew.alloc _)
    generalize (X.setCell ⟨g5, 0, none⟩ (.int .u8 (bits .xor .u8 x 1))).drew = W at hpC2 hpL hV1 hWs ⊢
    have HpC := Aside0.mk hpC2
    have HV1 := Aside0.mk hV1
    have HL1 := Aside0.mk hpL
    have hB1 : B ≤ W.heap.size := Nat.le_trans hBw hpC2.size
    clear hpC2 hV1
    obtain ⟨hv1, t1, _, t3, _⟩ := hpL
    obtain ⟨ps2, hps2, hrow2, hall2⟩ := t3
    have z2 := blk_cell t1 2
    have zf2 := blk_frozen t1 2
    simp only [List.getElem?_toArray, List.getElem?_cons_zero, List.getElem?_cons_succ] at z2
    have HT1 := Aside0.mk t1
    have HPS2 := Aside0.mk hps2
    have HR2 := Aside0.mk hrow2
    have HA2 := Aside0.mk hall2
    have hpl2 : ps2.length ≤ 100001 := by have h := congrArg List.length hps2; simp at h; omega
    clear t1 hps2 hrow2 hall2
    refine print_append (w0 := w) B rfl (.tmp 81) (.tmp 83) 22 27 (.slice none 0 0) 24 rfl Try.underlying22 info_sl rfl (by omega) (.slice Ar s.r.length cr) (ps2.map (·.1)) (.slice (some ⟨g5, 0, none⟩) n c5) rfl (by simp [Act.eval, hWs]) rfl (by rw [List.length_map]; exact HR2.out) (HpC.out.below hB hBw) hB1 (by rw [List.length_map]; omega) ?_
    intro v2 w2 ho hb hg hat
    simp only [List.length_append, List.length_map, List.length_singleton] at ho
    obtain ⟨Av2, cv2, rfl⟩ := row_slice ho
    have hG2 := grown_line HT1.out HR2.out hg
    have q2 := blk_cell hG2 2
    have qf2 := blk_frozen hG2 2
    simp only [List.getElem?_toArray, List.getElem?_cons_zero, List.getElem?_cons_succ] at q2
    have HO2 := Aside0.mk ho
    have HGr2 := Aside0.mk hg
    have HAt2 := Aside0.mk hat
    clear hG2 ho hb hg hat
    obtain ⟨hqL, hqC, hqF⟩ := HL1.out.push HPS2.out HR2.out HA2.out (show OwnB B W _ (l.set 0 (bits .xor .u8 x 1)) by unfold OwnB; rw [List.length_set, hnl]; exact HV1.out) HGr2.out HO2.out HAt2.out
    have hB2 := Nat.le_trans hB1 hqC.size
    have HqC := Aside0.mk ((ChgL.of_chg HpC.out).trans (Fresh.refl _ _) hqC)
    have HqF := Aside0.mk ((Fresh.refl w.heap.size _).trans hqF HpC.out.size)
    go_wp2_with fail
    (with_reducible refine (freeL_any B g _ _ _ hqL (by show (s.r ++ [_]).length ≤ _; simp; omega) hB2).mono ?_)
    rintro _ w8 ⟨rfl, rv8, hL8, hC8, hF8⟩
    have HE := Aside0.mk (put_close (Below.refl _ w) (Chg.refl g w) HqC.out HqF.out hC8 hF8)
    have HL8 := Aside0.mk hL8
    clear hqL hqC hqF hL8 hC8 hF8
    go_wp2
    first | go_ret | go_end0
    exact ⟨rfl, rv8, by first | exact HL8.out | (rw [hbf, hfl]; exact HL8.out), HE.out.1, HE.out.2⟩
  · obtain ⟨bt, hbt, hbl⟩ : ∃ bt : Nat, s.a % (8 * (n : Int)) = bt ∧ bt < 8 * n := by
      have h1 := Int.emod_nonneg s.a hz8
      have h2 := Int.emod_lt_of_pos s.a (show (0 : Int) < 8 * (n : Int) by omega)
      exact ⟨(s.a % (8 * (n : Int))).toNat, by omega, by omega⟩
    have hbf : bitOf s.a n = bt := by unfold bitOf; rw [if_neg ha, hbt]; rfl
    go_wp2
    go_quiet (fail)
    go_wp2_with fail
    generalize hX : ((w5.drewN _).setCell _ _).setCell _ _ = X
    have HXL := Aside0.mk (show IsLn B X g (.slice Ar s.r.length cr) { s with k := 0, a := 0 } by rw [← hX]; exact HZ.out _)
    have HXC := Aside0.mk (show Chg g w5 X by rw [← hX]; exact HZc.out _)
    have HXR := Aside0.mk (show X.ownsRow B 27 1 (.slice Ar s.r.length cr) ps.length (ps.map (·.1)) by rw [← hX]; exact HRz.out _)
    have HXA := Aside0.mk (show ∀ p ∈ ps, OwnB B X p.1 p.2 by rw [← hX]; exact HAz.out _)
    have HXV := Aside0.mk (show X.ownsRow w.heap.size 5 1 (.slice A5 n c5) n (nums .u8 l) by rw [← hX]; exact own_line HO5n.out H1.out (by decide) (HZc.out _))
    have HXz := Aside0.mk (show ∀ hv, w5.heap[g]? = some (.cells #[.int .i64 s.k, .int .i64 s.a, .slice Ar s.r.length cr, hv] 47 (0, 0)) → X.heap[g]? = some (.cells #[.int .i64 0, .int .i64 0, .slice Ar s.r.length cr, hv] 47 (0, 0)) by intro hv h; rw [← hX]; exact zeroed1 h _)
    have hX1 : X.heap[g]? = some (.cells #[.int .i64 0, .int .i64 0, .slice Ar s.r.length cr, .slice Ah (s.h.getD []).length ch] 47 (0, 0)) := by rw [← hX]; exact zeroed1 H1.out _
    have hXg : g < X.heap.size := blk_lt hX1
    have hBX : B ≤ X.heap.size := Nat.le_trans hBw5 HXC.out.size
    have HX1 := Aside0.mk hX1
    clear hX hX1 g0 g1 g2 g3 f0 f1 f2 f3
    obtain ⟨g5, cap5, e5, hgb, hgl⟩ := HXV.out.form (by omega)
    injection e5 with e5a _ e5c
    subst e5a e5c
    rw [hbt]
    obtain ⟨q, hq⟩ : ∃ q, bt / 8 = q := ⟨_, rfl⟩
    obtain ⟨r, hr8⟩ : ∃ r, bt % 8 = r := ⟨_, rfl⟩
    have hq1 : q < n := by omega
    have hr1 : r < 8 := by omega
    have hqw : IntKind.i64.wrap ((bt : Int) / 8) = (q : Int) := by rw [IntKind.wrap_i64]; omega
    have hrw : (bt : Int) % 8 = (r : Int) := by omega
    have hrt : (bt : Int).tmod 8 = (r : Int) := by rw [Int.tmod_eq_emod_of_nonneg (by omega)]; omega
    have hcell := own_at HXV.out (q : Int) (by omega) (by omega)
    rw [Int.toNat_natCast] at hcell
    obtain ⟨hcd, hfr⟩ := hcell
    obtain ⟨x, hx⟩ : ∃ x, rd l (q : Int) = x := ⟨_, rfl⟩
    rw [hx] at hcd
    have hfl : flipB l bt = l.set q (bits .xor .u8 x (2 ^ r % 256)) := by unfold flipB; rw [hq, hr8, hx]
    have hne5 : g5 ≠ g := by have := HS.out.lt; omega
    have xg2 : ∀ u, (X.setCell ⟨g5, q, none⟩ u).cell? ⟨g, 2, none⟩ = some (.slice Ar s.r.length cr) := fun u => blk_cell ((Below.heap_setCell _ _ _ _ (Ne.symm hne5)).trans HX1.out) 2
    have xf2 : ∀ u, (X.setCell ⟨g5, q, none⟩ u).frozen? ⟨g, 2, none⟩ = false := fun u => blk_frozen ((Below.heap_setCell _ _ _ _ (Ne.symm hne5)).trans HX1.out) 2
    have HWC := Aside0.mk (show Chg g w (X.setCell ⟨g5, q, none⟩ (.int .u8 (bits .xor .u8 x (2 ^ r % 256)))).drew from (((Chg.of_below HB5.out).trans HXC.out).new (p := ⟨g5, q, none⟩) hgb _).drewN 1)
    have HWL := Aside0.mk (show IsLn B (X.setCell ⟨g5, q, none⟩ (.int .u8 (bits .xor .u8 x (2 ^ r % 256)))).drew g (.slice Ar s.r.length cr) { s with k := 0, a := 0 } from HS.out.turned HWC.out 0 0 (fun hv h => (Below.heap_setCell _ _ _ _ (Ne.symm hne5)).trans (HXz.out _ (blk_below h HB5.out))))
    have hst := own_store HXV.out ((q : Nat) : Int) (bits .xor .u8 x (2 ^ r % 256))
    rw [Int.toNat_natCast] at hst
    have HWV := Aside0.mk (show (X.setCell ⟨g5, q, none⟩ (.int .u8 (bits .xor .u8 x (2 ^ r % 256)))).drew.ownsRow B 5 1 (.slice (some ⟨g5, 0, none⟩) n c5) n (nums .u8 (l.set q (bits .xor .u8 x (2 ^ r % 256)))) from own_base hst.1 hBw)
    clear hst
    go_still_tail 9, (by kernel_rfl)
    change wpList _ _ _ _ _ X.drew
    go_wp2_with (at_builtin; refine hold0 ?_)
    unfold Held0
    have hpC2 := HWC.out
    have hpL := HWL.out
    have hV1 := HWV.out
    clear xg2 xf2 HWC HWL HWV
    have hWs : (X.setCell ⟨g5, q, none⟩ (.int .u8 (bits .xor .u8 x (2 ^ r % 256)))).drew.heap.size = X.heap.size := by simp
    change wpList _ _ _ _ _ ((X.setCell ⟨g5, q, none⟩ (.int .u8 (bits .xor .u8 x (2 ^ r % 256)))).drew.alloc _)
    generalize (X.setCell ⟨g5, q, none⟩ (.int .u8 (bits .xor .u8 x (2 ^ r % 256)))).drew = W at hpC2 hpL hV1 hWs ⊢
    have HpC := Aside0.mk hpC2
    have HV1 := Aside0.mk hV1
    have HL1 := Aside0.mk hpL
    have hB1 : B ≤ W.heap.size := Nat.le_trans hBw hpC2.size
    clear hpC2 hV1
    obtain ⟨hv1, t1, _, t3, _⟩ := hpL
    obtain ⟨ps2, hps2, hrow2, hall2⟩ := t3
    have z2 := blk_cell t1 2
    have zf2 := blk_frozen t1 2
    simp only [List.getElem?_toArray, List.getElem?_cons_zero, List.getElem?_cons_succ] at z2
    have HT1 := Aside0.mk t1
    have HPS2 := Aside0.mk hps2
    have HR2 := Aside0.mk hrow2
    have HA2 := Aside0.mk hall2
    have hpl2 : ps2.length ≤ 100001 := by have h := congrArg List.length hps2; simp at h; omega
    clear t1 hps2 hrow2 hall2
    refine print_append (w0 := w) B rfl (.tmp 81) (.tmp 83) 22 27 (.slice none 0 0) 24 rfl Try.underlying22 info_sl rfl (by omega) (.slice Ar s.r.length cr) (ps2.map (·.1)) (.slice (some ⟨g5, 0, none⟩) n c5) rfl (by simp [Act.eval, hWs]) rfl (by rw [List.length_map]; exact HR2.out) (HpC.out.below hB hBw) hB1 (by rw [List.length_map]; omega) ?_
    intro v2 w2 ho hb hg hat
    simp only [List.length_append, List.length_map, List.length_singleton] at ho
    obtain ⟨Av2, cv2, rfl⟩ := row_slice ho
    have hG2 := grown_line HT1.out HR2.out hg
    have q2 := blk_cell hG2 2
    have qf2 := blk_frozen hG2 2
    simp only [List.getElem?_toArray, List.getElem?_cons_zero, List.getElem?_cons_succ] at q2
    have HO2 := Aside0.mk ho
    have HGr2 := Aside0.mk hg
    have HAt2 := Aside0.mk hat
    clear hG2 ho hb hg hat
    obtain ⟨hqL, hqC, hqF⟩ := HL1.out.push HPS2.out HR2.out HA2.out (show OwnB B W _ (l.set q (bits .xor .u8 x (2 ^ r % 256))) by unfold OwnB; rw [List.length_set, hnl]; exact HV1.out) HGr2.out HO2.out HAt2.out
    have hB2 := Nat.le_trans hB1 hqC.size
    have HqC := Aside0.mk ((ChgL.of_chg HpC.out).trans (Fresh.refl _ _) hqC)
    have HqF := Aside0.mk ((Fresh.refl w.heap.size _).trans hqF HpC.out.size)
    go_wp2_with fail
    (with_reducible refine (freeL_any B g _ _ _ hqL (by show (s.r ++ [_]).length ≤ _; simp; omega) hB2).mono ?_)
    rintro _ w8 ⟨rfl, rv8, hL8, hC8, hF8⟩
    have HE := Aside0.mk (put_close (Below.refl _ w) (Chg.refl g w) HqC.out HqF.out hC8 hF8)
    have HL8 := Aside0.mk hL8
    clear hqL hqC hqF hL8 hC8 hF8
    go_wp2
    first | go_ret | go_end0
    exact ⟨rfl, rv8, by first | exact HL8.out | (rw [hbf, hfl]; exact HL8.out), HE.out.1, HE.out.2⟩
end Go.Proofs.Ythdjlhhdjanocaa
