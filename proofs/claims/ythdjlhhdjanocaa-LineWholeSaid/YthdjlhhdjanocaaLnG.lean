/- The line that fails: each fault, the law. Conditions: the arguments read as data. -/
import Derived.Test.YthdjlhhdjanocaaLnF
import Derived.Laws.Closers25b
namespace Go.Proofs.Ythdjlhhdjanocaa
open Go.RowKit Go.Proofs.YthdjlhhdjanocaaW.PrintWords
set_option linter.unusedVariables false
theorem readsL_lit {w : World} {k : Nat} {t : TypeId} {fr : Nat × Nat} (es : List (Option Addr × Nat × List Int)) (h : w.heap[k]? = some (.cells (es.map fun e => Value.slice e.1 e.2.2.length e.2.1).toArray t fr)) (hr : ∀ e ∈ es, ReadsInt w .u8 e.1 e.2.2.length e.2.2) (hm : es.length ≤ 100) : ReadsL w (some ⟨k, 0, none⟩) es.length (es.map (·.2.2)) := by
  refine ⟨by simp, by omega, fun j hj => ?_⟩
  have hg : (es.map (·.2.2)).getD j [] = es[j].2.2 := by simp [List.getD_eq_getElem?_getD, hj]
  refine ⟨⟨k, 0, none⟩, es[j].1, es[j].2.1, rfl, ?_, by rw [hg]; exact hr _ (List.getElem_mem hj)⟩
  have ha : (⟨k, 0, none⟩ : Addr).add j = ⟨k, j, none⟩ := by unfold Addr.add; split <;> simp_all
  rw [ha, hg, cell_of_row w k j _ t fr h]
  simp [hj]
def wantL (kind : Int) (bt : Nat) (a b c : List Int) : List (List Int) :=
  if kind = 1 then [a, c] else if kind = 2 then [a, flipB b bt, c] else if kind = 3 then [a, b, b, c] else if kind = 4 then [a, c, b] else [a, b, c]
theorem faults_plain (kind arg : Int) (a b c : List Int) (hb : ¬ b.length = 0) (hc : ¬ c.length = 0) :
    let s4 : LS := if 1 ≤ kind ∧ kind ≤ 4 then { k := kind, a := arg, r := [a], h := none } else { k := 0, a := 0, r := [a], h := none }
    (s4.r.length ≤ 100000 ∧ (putS s4 b).r.length ≤ 1000) ∧ (putS s4 b).h.isSome = decide (kind = 4) ∧ putS (putS s4 b) c = ⟨0, 0, wantL kind (bitOf arg b.length) a b c, none⟩ := by
  intro s4
  by_cases h : 1 ≤ kind ∧ kind ≤ 4
  · obtain ⟨h1, h2⟩ := h
    have hk : kind = 1 ∨ kind = 2 ∨ kind = 3 ∨ kind = 4 := by omega
    rcases hk with rfl | rfl | rfl | rfl <;> simp [s4, putS, hb, hc, freeS, wantL]
  · have h1 : ¬ kind = 1 := by omega
    have h2 : ¬ kind = 2 := by omega
    have h3 : ¬ kind = 3 := by omega
    have h4 : ¬ kind = 4 := by omega
    simp [s4, h, putS, hb, hc, freeS, wantL, h1, h2, h3, h4]
theorem bits_u8 (op : BinOp) (a b : Int) : 0 ≤ bits op .u8 a b ∧ bits op .u8 a b < 256 := by
  have h1 := bits_lo_u8 op a b
  have h2 := bits_hi_u8 op a b
  omega
theorem flip_bytes {l : List Int} (bt : Nat) (h : Bytes l) : Bytes (flipB l bt) := by
  intro x hx
  rcases List.mem_or_eq_of_mem_set hx with hx | rfl
  · exact h x hx
  · exact bits_u8 _ _ _
set_option maxHeartbeats 6000000 in
set_option maxRecDepth 100000 in
theorem faults_law (kind arg : Int) (Aa Ab Ac : Option Addr) (ca cb cc : Nat) (a b c : List Int) (w : World) (ha : (Kd.int .u8).C w Aa a.length a) (hb : (Kd.int .u8).C w Ab b.length b) (hc : (Kd.int .u8).C w Ac c.length c) (ba : Bytes a) (bb : Bytes b) (bc : Bytes c) :
    Calls Try.prog 4 #[.int .i64 kind, .int .i64 arg, .slice Aa a.length ca, .slice Ab b.length cb, .slice Ac c.length cc] w (fun e w' => e = .returned (.bool true) ∧ Below w.heap.size w w') := by
  have HRa := Aside0.mk (reads_int ha)
  have HRb := Aside0.mk (reads_int hb)
  have HRc := Aside0.mk (reads_int hc)
  have hna : a.length ≤ 9223372036854775807 := ha.2.1
  have hnb : b.length ≤ 9223372036854775807 := hb.2.1
  have hnc : c.length ≤ 9223372036854775807 := hc.2.1
  have HBy := Aside0.mk (And.intro ba (And.intro bb bc))
  clear ha hb hc ba bb bc
  obtain ⟨la, hla⟩ : ∃ n, a.length = n := ⟨_, rfl⟩
  obtain ⟨lb, hlb⟩ : ∃ n, b.length = n := ⟨_, rfl⟩
  obtain ⟨lc, hlc⟩ : ∃ n, c.length = n := ⟨_, rfl⟩
  have HLa := Aside0.mk hla
  have HLb := Aside0.mk hlb
  have HLc := Aside0.mk hlc
  rw [hla] at HRa hna ⊢
  rw [hlb] at HRb hnb ⊢
  rw [hlc] at HRc hnc ⊢
  clear hla hlb hlc
  go_enter Try.func4, Try.ntmps4
  go_wp2_with fail
  (with_reducible refine (firstL_any _).mono ?_)
  rintro _ w1 ⟨rfl, hb1⟩
  go_wp2_with fail
  (with_reducible refine (newL_any w.heap.size _ hb1.size).mono ?_)
  rintro _ w2 ⟨g, rfl, hs2, hg2, hb2⟩
  have HB2 := Aside0.mk (below_two hb1 hb2)
  have HS2 := Aside0.mk hs2
  have lg2 : w.heap.size ≤ g := Nat.le_trans hb1.size hg2
  clear hs2 hb1 hb2 hg2
  by_cases p1 : la = 0
  · have e1 : ((la : Int) == 0) = true := by rw [beq_iff_eq]; omega
    go_wp2_with fail
    (with_reducible refine (firstL_any _).mono ?_)
    rintro _ w4 ⟨rfl, hb4⟩
    have HB4 := Aside0.mk (below_two HB2.out hb4)
    clear hb4
    go_wp2
    go_ret
    exact ⟨rfl, HB4.out⟩
  have e1 : ((la : Int) == 0) = false := by rw [beq_eq_false_iff_ne]; omega
  by_cases p2 : lb = 0
  · have e2 : ((lb : Int) == 0) = true := by rw [beq_iff_eq]; omega
    go_wp2_with fail
    (with_reducible refine (firstL_any _).mono ?_)
    rintro _ w4 ⟨rfl, hb4⟩
    have HB4 := Aside0.mk (below_two HB2.out hb4)
    clear hb4
    go_wp2
    go_ret
    exact ⟨rfl, HB4.out⟩
  have e2 : ((lb : Int) == 0) = false := by rw [beq_eq_false_iff_ne]; omega
  by_cases p3 : lc = 0
  · have e3 : ((lc : Int) == 0) = true := by rw [beq_iff_eq]; omega
    go_wp2_with fail
    (with_reducible refine (firstL_any _).mono ?_)
    rintro _ w4 ⟨rfl, hb4⟩
    have HB4 := Aside0.mk (below_two HB2.out hb4)
    clear hb4
    go_wp2
    go_ret
    exact ⟨rfl, HB4.out⟩
  have e3 : ((lc : Int) == 0) = false := by rw [beq_eq_false_iff_ne]; omega
  by_cases p4 : 3000 < la
  · have e4 : decide ((3000 : Int) < (la : Int)) = true := decide_eq_true (by omega)
    go_wp2_with fail
    (with_reducible refine (firstL_any _).mono ?_)
    rintro _ w4 ⟨rfl, hb4⟩
    have HB4 := Aside0.mk (below_two HB2.out hb4)
    clear hb4
    go_wp2
    go_ret
    exact ⟨rfl, HB4.out⟩
  have e4 : decide ((3000 : Int) < (la : Int)) = false := decide_eq_false (by omega)
  by_cases p5 : 3000 < lb
  · have e5 : decide ((3000 : Int) < (lb : Int)) = true := decide_eq_true (by omega)
    go_wp2_with fail
    (with_reducible refine (firstL_any _).mono ?_)
    rintro _ w4 ⟨rfl, hb4⟩
    have HB4 := Aside0.mk (below_two HB2.out hb4)
    clear hb4
    go_wp2
    go_ret
    exact ⟨rfl, HB4.out⟩
  have e5 : decide ((3000 : Int) < (lb : Int)) = false := decide_eq_false (by omega)
  by_cases p6 : 3000 < lc
  · have e6 : decide ((3000 : Int) < (lc : Int)) = true := decide_eq_true (by omega)
    go_wp2_with fail
    (with_reducible refine (firstL_any _).mono ?_)
    rintro _ w4 ⟨rfl, hb4⟩
    have HB4 := Aside0.mk (below_two HB2.out hb4)
    clear hb4
    go_wp2
    go_ret
    exact ⟨rfl, HB4.out⟩
  have e6 : decide ((3000 : Int) < (lc : Int)) = false := decide_eq_false (by omega)
  by_cases p7 : arg < 0
  · have e7 : decide (arg < 0) = true := decide_eq_true p7
    go_wp2_with fail
    (with_reducible refine (firstL_any _).mono ?_)
    rintro _ w4 ⟨rfl, hb4⟩
    have HB4 := Aside0.mk (below_two HB2.out hb4)
    clear hb4
    go_wp2
    go_ret
    exact ⟨rfl, HB4.out⟩
  have e7 : decide (arg < 0) = false := decide_eq_false p7
  go_wp2_with fail
  (with_reducible refine (putL_any w.heap.size g _ _ Aa la ca a _ HS2.out (HRa.out.below HB2.out) (by omega) (by decide) HB2.out.size).mono ?_)
  rintro _ w3 ⟨rfl, rv3, hs3, hc3, _⟩
  have HB3 := Aside0.mk (HB2.out.trans (HS2.out.chg_below hc3 HB2.out.size))
  have hs3' : IsLn w.heap.size w3 g rv3 ⟨0, 0, [a], none⟩ := by
    unfold putS at hs3
    rw [if_neg (by rw [HLa.out]; omega)] at hs3
    exact hs3
  clear hs3 hc3
  go_wp2_with fail
  (with_reducible refine (faultL_any w.heap.size g _ _ kind arg _ hs3').mono ?_)
  rintro _ w4 ⟨rfl, hs4, hc4⟩
  have HB4 := Aside0.mk (HB3.out.trans (hc4.below lg2 HB3.out.size))
  have HS4 := Aside0.mk hs4
  clear hs3' hs4 hc4
  obtain ⟨q1, q2, q3⟩ := faults_plain kind arg a b c (by rw [HLb.out]; exact p2) (by rw [HLc.out]; exact p3)
  have hs4 := HS4.out
  generalize (if 1 ≤ kind ∧ kind ≤ 4 then { k := kind, a := arg, r := [a], h := none } else ({ k := 0, a := 0, r := [a], h := none } : LS)) = s4 at hs4 q1 q2 q3
  have hr4 : s4.r.length ≤ 100000 := q1.1
  go_wp2_with fail
  (with_reducible refine (putL_any w.heap.size g _ _ Ab lb cb b _ hs4 (HRb.out.below HB4.out) (by omega) hr4 HB4.out.size).mono ?_)
  rintro _ w5 ⟨rfl, rv5, hs5, hc5, _⟩
  have HB5 := Aside0.mk (HB4.out.trans (hs4.chg_below hc5 HB4.out.size))
  have HS5 := Aside0.mk hs5
  clear hs5 hc5 hs4
  go_wp2_with fail
  (with_reducible refine (heldL_any w.heap.size g _ _ _ HS5.out).mono ?_)
  rintro _ w5' ⟨rfl, rfl⟩
  go_wp2_with fail
  (with_reducible refine (putL_any w.heap.size g _ _ Ac lc cc c _ HS5.out (HRc.out.below HB5.out) (by omega) (by have := q1.2; omega) HB5.out.size).mono ?_)
  rintro _ w6 ⟨rfl, rv6, hs6, hc6, _⟩
  have HB6 := Aside0.mk (HB5.out.trans (HS5.out.chg_below hc6 HB5.out.size))
  rw [q3] at hs6
  clear hc6 q1 q2 q3 hr4
  go_wp2_with fail
  (with_reducible refine (takeL_any w.heap.size g _ _ _ hs6).mono ?_)
  rintro _ w7 ⟨rfl, hr7, hs7, hc7⟩
  have HB7 := Aside0.mk (HB6.out.trans (hc7.below lg2 HB6.out.size))
  have HS7 := Aside0.mk hs7
  have HR7 := Aside0.mk hr7
  clear hs6 hs7 hr7 hc7
  go_wp2_with fail
  (with_reducible refine (copyBytes_any Ab lb cb b _ (HRb.out.below HB7.out) (by omega)).mono ?_)
  rintro _ w8 ⟨v8, rfl, ho8, hb8⟩
  have HB8 := Aside0.mk hb8
  have HO8 := Aside0.mk (show w8.ownsRow w7.heap.size 5 1 v8 lb (nums .u8 b) by rw [HLb.out] at ho8; exact ho8)
  obtain ⟨gd, capd, rfl, hgd, hgl⟩ := HO8.out.form (by omega)
  clear ho8 hb8
  obtain ⟨bt, hbt, hbl⟩ : ∃ bt : Nat, arg % (8 * (lb : Int)) = bt ∧ bt < 8 * lb := by
    have h1 := Int.emod_nonneg arg (show (8 * (lb : Int)) ≠ 0 by omega)
    have h2 := Int.emod_lt_of_pos arg (show (0 : Int) < 8 * (lb : Int) by omega)
    exact ⟨(arg % (8 * (lb : Int))).toNat, by omega, by omega⟩
  have hbf := Aside0.mk (show bitOf arg lb = bt by unfold bitOf; rw [if_neg (by omega), hbt]; rfl)
  have hw8 : IntKind.i64.wrap (8 * (lb : Int)) = 8 * (lb : Int) := by rw [IntKind.wrap_i64]; omega
  have hz8 : ¬ (8 * (lb : Int)) = 0 := by omega
  obtain ⟨q, hq⟩ : ∃ q, bt / 8 = q := ⟨_, rfl⟩
  obtain ⟨r, hr8⟩ : ∃ r, bt % 8 = r := ⟨_, rfl⟩
  have hq1 : q < lb := by omega
  have hr1 : r < 8 := by omega
  have hqw : IntKind.i64.wrap ((bt : Int) / 8) = (q : Int) := by rw [IntKind.wrap_i64]; omega
  have hrt : (bt : Int).tmod 8 = (r : Int) := by rw [Int.tmod_eq_emod_of_nonneg (by omega)]; omega
  have hcell := own_at HO8.out (q : Int) (by omega) (by omega)
  rw [Int.toNat_natCast] at hcell
  obtain ⟨hcd, hfr⟩ := hcell
  obtain ⟨x, hx⟩ : ∃ x, rd b (q : Int) = x := ⟨_, rfl⟩
  rw [hx] at hcd
  have hfl := Aside0.mk (show flipB b bt = b.set q (bits .xor .u8 x (2 ^ r % 256)) by unfold flipB; rw [hq, hr8, hx])
  clear hq hr8 hx
  have hst := own_store HO8.out (q : Int) (bits .xor .u8 x (2 ^ r % 256))
  rw [Int.toNat_natCast] at hst
  have HO9 := Aside0.mk hst.1
  have HB9 := Aside0.mk (show Below w7.heap.size w7 (w8.setCell ⟨gd, q, none⟩ (.int .u8 (bits .xor .u8 x (2 ^ r % 256)))) from below_set HB8.out hgd)
  clear hst
  have hk6 : kind = 1 ∨ kind = 2 ∨ kind = 3 ∨ kind = 4 ∨ kind < 1 ∨ 4 < kind := by omega
  have HLd := Aside0.mk (show (flipB b bt).length = lb by unfold flipB; rw [List.length_set]; exact HLb.out)
  have HBd := Aside0.mk (flip_bytes bt HBy.out.2.1)
  rcases hk6 with rfl | rfl | rfl | rfl | hk | hk
  · go_wp2_with fail
    (with_reducible refine (firstL_any _).mono ?_)
    rintro _ w9 ⟨rfl, hb9⟩
    have hB9 := HB9.out
    have hO9 := HO9.out
    generalize hW : w8.setCell ⟨gd, q, none⟩ _ = W at hb9 hB9 hO9
    have hWs : W.heap.size = w8.heap.size := by rw [← hW]; simp
    have b97 : Below w7.heap.size w7 w9 := below_two (below_alloc (below_alloc hB9 _) _) hb9
    have hblk := blk_below (heap_two W _ _) hb9
    rw [hWs] at hblk
    have hO10 := own_below' hO9 (below_two (below_alloc (below_alloc (Below.refl _ _) _) _) hb9)
    have hw9 : Below w.heap.size w w9 := HB7.out.trans (b97.mono HB7.out.size)
    have hRd : ReadsInt w9 .u8 (some ⟨gd, 0, none⟩) lb (flipB b bt) := by rw [hfl.out]; exact own_reads_of hO10
    have hwant := readsL_lit [(Aa, ca, a), (Ac, cc, c)] (by simpa [HLa.out, HLc.out] using hblk) (by
      intro e he
      simp only [List.mem_cons, List.not_mem_nil, or_false] at he
      rcases he with rfl | rfl
      · exact (show ReadsInt w9 .u8 Aa a.length a by rw [HLa.out]; exact HRa.out.below hw9)
      · exact (show ReadsInt w9 .u8 Ac c.length c by rw [HLc.out]; exact HRc.out.below hw9)) (by simp)
    have hw : wantL 1 (bitOf arg b.length) a b c = [a, c] := by simp [wantL]
    have hr7 := HR7.out
    rw [hw] at hr7
    obtain ⟨Ao, co, hrv, hro⟩ := (hr7.below b97).reads
    subst hrv
    have HRo := Aside0.mk (show ReadsL w9 Ao 2 [a, c] from hro)
    have HWa := Aside0.mk (show ReadsL w9 (some ⟨w8.heap.size + 1, 0, none⟩) 2 [a, c] from hwant)
    have HWy := Aside0.mk (show ∀ f ∈ ([a, c] : List (List Int)), Bytes f by
      intro f hf
      simp only [List.mem_cons, List.not_mem_nil, or_false] at hf
      rcases hf with rfl | rfl
      · exact HBy.out.1
      · exact HBy.out.2.2)
    have hS9 := HS7.out.below b97
    have HS9 := Aside0.mk (fun m => IsLn.below hS9 (pw_below_drewN (Below.refl w9.heap.size w9) m))
    have H9 := Aside0.mk hw9
    clear hW hblk hO9 hO10 hRd hwant hw hr7 hro hB9 hb9 b97 hw9 hS9
    simp only [List.length_cons, List.length_nil, Nat.reduceAdd]
    go_wp2_with fail
    (with_reducible refine (lists_same Ao _ 2 co 2 [a, c] _ HRo.out HWa.out HWy.out).mono ?_)
    rintro _ w10 ⟨rfl, m, rfl⟩
    go_wp2_with fail
    (with_reducible refine (heldL_any w.heap.size g _ _ _ (HS9.out m)).mono ?_)
    rintro _ w11 ⟨rfl, rfl⟩
    go_wp2_with fail
    (with_reducible refine (takeL_any w.heap.size g _ _ _ (HS9.out m)).mono ?_)
    rintro _ w12 ⟨rfl, _, _, hc12⟩
    have H12 := Aside0.mk ((pw_below_drewN H9.out m).trans (hc12.below lg2 (pw_below_drewN H9.out m).size))
    clear hc12
    go_wp2
    go_ret
    exact ⟨rfl, H12.out⟩
  · go_wp2_with fail
    (with_reducible refine (firstL_any _).mono ?_)
    rintro _ w9 ⟨rfl, hb9⟩
    have hB9 := HB9.out
    have hO9 := HO9.out
    generalize hW : w8.setCell ⟨gd, q, none⟩ _ = W at hb9 hB9 hO9
    have hWs : W.heap.size = w8.heap.size := by rw [← hW]; simp
    have b97 : Below w7.heap.size w7 w9 := below_two (below_alloc (below_alloc hB9 _) _) hb9
    have hblk := blk_below (heap_two W _ _) hb9
    rw [hWs] at hblk
    have hO10 := own_below' hO9 (below_two (below_alloc (below_alloc (Below.refl _ _) _) _) hb9)
    have hw9 : Below w.heap.size w w9 := HB7.out.trans (b97.mono HB7.out.size)
    have hRd : ReadsInt w9 .u8 (some ⟨gd, 0, none⟩) lb (flipB b bt) := by rw [hfl.out]; exact own_reads_of hO10
    have hwant := readsL_lit [(Aa, ca, a), (some ⟨gd, 0, none⟩, capd, flipB b bt), (Ac, cc, c)] (by simpa [HLa.out, HLc.out, HLd.out] using hblk) (by
      intro e he
      simp only [List.mem_cons, List.not_mem_nil, or_false] at he
      rcases he with rfl | rfl | rfl
      · exact (show ReadsInt w9 .u8 Aa a.length a by rw [HLa.out]; exact HRa.out.below hw9)
      · exact (show ReadsInt w9 .u8 (some ⟨gd, 0, none⟩) (flipB b bt).length (flipB b bt) by rw [HLd.out]; exact hRd)
      · exact (show ReadsInt w9 .u8 Ac c.length c by rw [HLc.out]; exact HRc.out.below hw9)) (by simp)
    have hw : wantL 2 (bitOf arg b.length) a b c = [a, flipB b bt, c] := by rw [HLb.out, hbf.out]; simp [wantL]
    have hr7 := HR7.out
    rw [hw] at hr7
    obtain ⟨Ao, co, hrv, hro⟩ := (hr7.below b97).reads
    subst hrv
    have HRo := Aside0.mk (show ReadsL w9 Ao 3 [a, flipB b bt, c] from hro)
    have HWa := Aside0.mk (show ReadsL w9 (some ⟨w8.heap.size + 1, 0, none⟩) 3 [a, flipB b bt, c] from hwant)
    have HWy := Aside0.mk (show ∀ f ∈ ([a, flipB b bt, c] : List (List Int)), Bytes f by
      intro f hf
      simp only [List.mem_cons, List.not_mem_nil, or_false] at hf
      rcases hf with rfl | rfl | rfl
      · exact HBy.out.1
      · exact HBd.out
      · exact HBy.out.2.2)
    have hS9 := HS7.out.below b97
    have HS9 := Aside0.mk (fun m => IsLn.below hS9 (pw_below_drewN (Below.refl w9.heap.size w9) m))
    have H9 := Aside0.mk hw9
    clear hW hblk hO9 hO10 hRd hwant hw hr7 hro hB9 hb9 b97 hw9 hS9
    simp only [List.length_cons, List.length_nil, Nat.reduceAdd]
    go_wp2_with fail
    (with_reducible refine (lists_same Ao _ 3 co 3 [a, flipB b bt, c] _ HRo.out HWa.out HWy.out).mono ?_)
    rintro _ w10 ⟨rfl, m, rfl⟩
    go_wp2_with fail
    (with_reducible refine (heldL_any w.heap.size g _ _ _ (HS9.out m)).mono ?_)
    rintro _ w11 ⟨rfl, rfl⟩
    go_wp2_with fail
    (with_reducible refine (takeL_any w.heap.size g _ _ _ (HS9.out m)).mono ?_)
    rintro _ w12 ⟨rfl, _, _, hc12⟩
    have H12 := Aside0.mk ((pw_below_drewN H9.out m).trans (hc12.below lg2 (pw_below_drewN H9.out m).size))
    clear hc12
    go_wp2
    go_ret
    exact ⟨rfl, H12.out⟩
  · go_wp2_with fail
    (with_reducible refine (firstL_any _).mono ?_)
    rintro _ w9 ⟨rfl, hb9⟩
    have hB9 := HB9.out
    have hO9 := HO9.out
    generalize hW : w8.setCell ⟨gd, q, none⟩ _ = W at hb9 hB9 hO9
    have hWs : W.heap.size = w8.heap.size := by rw [← hW]; simp
    have b97 : Below w7.heap.size w7 w9 := below_two (below_alloc (below_alloc hB9 _) _) hb9
    have hblk := blk_below (heap_two W _ _) hb9
    rw [hWs] at hblk
    have hO10 := own_below' hO9 (below_two (below_alloc (below_alloc (Below.refl _ _) _) _) hb9)
    have hw9 : Below w.heap.size w w9 := HB7.out.trans (b97.mono HB7.out.size)
    have hRd : ReadsInt w9 .u8 (some ⟨gd, 0, none⟩) lb (flipB b bt) := by rw [hfl.out]; exact own_reads_of hO10
    have hwant := readsL_lit [(Aa, ca, a), (Ab, cb, b), (Ab, cb, b), (Ac, cc, c)] (by simpa [HLa.out, HLb.out, HLc.out] using hblk) (by
      intro e he
      simp only [List.mem_cons, List.not_mem_nil, or_false] at he
      rcases he with rfl | rfl | rfl | rfl
      · exact (show ReadsInt w9 .u8 Aa a.length a by rw [HLa.out]; exact HRa.out.below hw9)
      · exact (show ReadsInt w9 .u8 Ab b.length b by rw [HLb.out]; exact HRb.out.below hw9)
      · exact (show ReadsInt w9 .u8 Ab b.length b by rw [HLb.out]; exact HRb.out.below hw9)
      · exact (show ReadsInt w9 .u8 Ac c.length c by rw [HLc.out]; exact HRc.out.below hw9)) (by simp)
    have hw : wantL 3 (bitOf arg b.length) a b c = [a, b, b, c] := by simp [wantL]
    have hr7 := HR7.out
    rw [hw] at hr7
    obtain ⟨Ao, co, hrv, hro⟩ := (hr7.below b97).reads
    subst hrv
    have HRo := Aside0.mk (show ReadsL w9 Ao 4 [a, b, b, c] from hro)
    have HWa := Aside0.mk (show ReadsL w9 (some ⟨w8.heap.size + 1, 0, none⟩) 4 [a, b, b, c] from hwant)
    have HWy := Aside0.mk (show ∀ f ∈ ([a, b, b, c] : List (List Int)), Bytes f by
      intro f hf
      simp only [List.mem_cons, List.not_mem_nil, or_false] at hf
      rcases hf with rfl | rfl | rfl | rfl
      · exact HBy.out.1
      · exact HBy.out.2.1
      · exact HBy.out.2.1
      · exact HBy.out.2.2)
    have hS9 := HS7.out.below b97
    have HS9 := Aside0.mk (fun m => IsLn.below hS9 (pw_below_drewN (Below.refl w9.heap.size w9) m))
    have H9 := Aside0.mk hw9
    clear hW hblk hO9 hO10 hRd hwant hw hr7 hro hB9 hb9 b97 hw9 hS9
    simp only [List.length_cons, List.length_nil, Nat.reduceAdd]
    go_wp2_with fail
    (with_reducible refine (lists_same Ao _ 4 co 4 [a, b, b, c] _ HRo.out HWa.out HWy.out).mono ?_)
    rintro _ w10 ⟨rfl, m, rfl⟩
    go_wp2_with fail
    (with_reducible refine (heldL_any w.heap.size g _ _ _ (HS9.out m)).mono ?_)
    rintro _ w11 ⟨rfl, rfl⟩
    go_wp2_with fail
    (with_reducible refine (takeL_any w.heap.size g _ _ _ (HS9.out m)).mono ?_)
    rintro _ w12 ⟨rfl, _, _, hc12⟩
    have H12 := Aside0.mk ((pw_below_drewN H9.out m).trans (hc12.below lg2 (pw_below_drewN H9.out m).size))
    clear hc12
    go_wp2
    go_ret
    exact ⟨rfl, H12.out⟩
  · go_wp2_with fail
    (with_reducible refine (firstL_any _).mono ?_)
    rintro _ w9 ⟨rfl, hb9⟩
    have hB9 := HB9.out
    have hO9 := HO9.out
    generalize hW : w8.setCell ⟨gd, q, none⟩ _ = W at hb9 hB9 hO9
    have hWs : W.heap.size = w8.heap.size := by rw [← hW]; simp
    have b97 : Below w7.heap.size w7 w9 := below_two (below_alloc (below_alloc hB9 _) _) hb9
    have hblk := blk_below (heap_two W _ _) hb9
    rw [hWs] at hblk
    have hO10 := own_below' hO9 (below_two (below_alloc (below_alloc (Below.refl _ _) _) _) hb9)
    have hw9 : Below w.heap.size w w9 := HB7.out.trans (b97.mono HB7.out.size)
    have hRd : ReadsInt w9 .u8 (some ⟨gd, 0, none⟩) lb (flipB b bt) := by rw [hfl.out]; exact own_reads_of hO10
    have hwant := readsL_lit [(Aa, ca, a), (Ac, cc, c), (Ab, cb, b)] (by simpa [HLa.out, HLb.out, HLc.out] using hblk) (by
      intro e he
      simp only [List.mem_cons, List.not_mem_nil, or_false] at he
      rcases he with rfl | rfl | rfl
      · exact (show ReadsInt w9 .u8 Aa a.length a by rw [HLa.out]; exact HRa.out.below hw9)
      · exact (show ReadsInt w9 .u8 Ac c.length c by rw [HLc.out]; exact HRc.out.below hw9)
      · exact (show ReadsInt w9 .u8 Ab b.length b by rw [HLb.out]; exact HRb.out.below hw9)) (by simp)
    have hw : wantL 4 (bitOf arg b.length) a b c = [a, c, b] := by simp [wantL]
    have hr7 := HR7.out
    rw [hw] at hr7
    obtain ⟨Ao, co, hrv, hro⟩ := (hr7.below b97).reads
    subst hrv
    have HRo := Aside0.mk (show ReadsL w9 Ao 3 [a, c, b] from hro)
    have HWa := Aside0.mk (show ReadsL w9 (some ⟨w8.heap.size + 1, 0, none⟩) 3 [a, c, b] from hwant)
    have HWy := Aside0.mk (show ∀ f ∈ ([a, c, b] : List (List Int)), Bytes f by
      intro f hf
      simp only [List.mem_cons, List.not_mem_nil, or_false] at hf
      rcases hf with rfl | rfl | rfl
      · exact HBy.out.1
      · exact HBy.out.2.2
      · exact HBy.out.2.1)
    have hS9 := HS7.out.below b97
    have HS9 := Aside0.mk (fun m => IsLn.below hS9 (pw_below_drewN (Below.refl w9.heap.size w9) m))
    have H9 := Aside0.mk hw9
    clear hW hblk hO9 hO10 hRd hwant hw hr7 hro hB9 hb9 b97 hw9 hS9
    simp only [List.length_cons, List.length_nil, Nat.reduceAdd]
    go_wp2_with fail
    (with_reducible refine (lists_same Ao _ 3 co 3 [a, c, b] _ HRo.out HWa.out HWy.out).mono ?_)
    rintro _ w10 ⟨rfl, m, rfl⟩
    go_wp2_with fail
    (with_reducible refine (heldL_any w.heap.size g _ _ _ (HS9.out m)).mono ?_)
    rintro _ w11 ⟨rfl, rfl⟩
    go_wp2_with fail
    (with_reducible refine (takeL_any w.heap.size g _ _ _ (HS9.out m)).mono ?_)
    rintro _ w12 ⟨rfl, _, _, hc12⟩
    have H12 := Aside0.mk ((pw_below_drewN H9.out m).trans (hc12.below lg2 (pw_below_drewN H9.out m).size))
    clear hc12
    go_wp2
    go_ret
    exact ⟨rfl, H12.out⟩
  · go_wp2_with fail
    (with_reducible refine (firstL_any _).mono ?_)
    rintro _ w9 ⟨rfl, hb9⟩
    have hB9 := HB9.out
    have hO9 := HO9.out
    generalize hW : w8.setCell ⟨gd, q, none⟩ _ = W at hb9 hB9 hO9
    have hWs : W.heap.size = w8.heap.size := by rw [← hW]; simp
    have b97 : Below w7.heap.size w7 w9 := below_two (below_alloc hB9 _) hb9
    have hblk := blk_below (heap_alloc_new W _) hb9
    rw [hWs] at hblk
    have hO10 := own_below' hO9 (below_two (below_alloc (Below.refl _ _) _) hb9)
    have hw9 : Below w.heap.size w w9 := HB7.out.trans (b97.mono HB7.out.size)
    have hRd : ReadsInt w9 .u8 (some ⟨gd, 0, none⟩) lb (flipB b bt) := by rw [hfl.out]; exact own_reads_of hO10
    have hwant := readsL_lit [(Aa, ca, a), (Ab, cb, b), (Ac, cc, c)] (by simpa [HLa.out, HLb.out, HLc.out] using hblk) (by
      intro e he
      simp only [List.mem_cons, List.not_mem_nil, or_false] at he
      rcases he with rfl | rfl | rfl
      · exact (show ReadsInt w9 .u8 Aa a.length a by rw [HLa.out]; exact HRa.out.below hw9)
      · exact (show ReadsInt w9 .u8 Ab b.length b by rw [HLb.out]; exact HRb.out.below hw9)
      · exact (show ReadsInt w9 .u8 Ac c.length c by rw [HLc.out]; exact HRc.out.below hw9)) (by simp)
    have hw : wantL kind (bitOf arg b.length) a b c = [a, b, c] := by unfold wantL; rw [if_neg (by omega), if_neg (by omega), if_neg (by omega), if_neg (by omega)]
    have hr7 := HR7.out
    rw [hw] at hr7
    obtain ⟨Ao, co, hrv, hro⟩ := (hr7.below b97).reads
    subst hrv
    have HRo := Aside0.mk (show ReadsL w9 Ao 3 [a, b, c] from hro)
    have HWa := Aside0.mk (show ReadsL w9 (some ⟨w8.heap.size, 0, none⟩) 3 [a, b, c] from hwant)
    have HWy := Aside0.mk (show ∀ f ∈ ([a, b, c] : List (List Int)), Bytes f by
      intro f hf
      simp only [List.mem_cons, List.not_mem_nil, or_false] at hf
      rcases hf with rfl | rfl | rfl
      · exact HBy.out.1
      · exact HBy.out.2.1
      · exact HBy.out.2.2)
    have hS9 := HS7.out.below b97
    have HS9 := Aside0.mk (fun m => IsLn.below hS9 (pw_below_drewN (Below.refl w9.heap.size w9) m))
    have H9 := Aside0.mk hw9
    clear hW hblk hO9 hO10 hRd hwant hw hr7 hro hB9 hb9 b97 hw9 hS9
    simp only [List.length_cons, List.length_nil, Nat.reduceAdd]
    go_wp2_with fail
    (with_reducible refine (lists_same Ao _ 3 co 3 [a, b, c] _ HRo.out HWa.out HWy.out).mono ?_)
    rintro _ w10 ⟨rfl, m, rfl⟩
    go_wp2_with fail
    (with_reducible refine (heldL_any w.heap.size g _ _ _ (HS9.out m)).mono ?_)
    rintro _ w11 ⟨rfl, rfl⟩
    go_wp2_with fail
    (with_reducible refine (takeL_any w.heap.size g _ _ _ (HS9.out m)).mono ?_)
    rintro _ w12 ⟨rfl, _, _, hc12⟩
    have H12 := Aside0.mk ((pw_below_drewN H9.out m).trans (hc12.below lg2 (pw_below_drewN H9.out m).size))
    clear hc12
    go_wp2
    go_ret
    exact ⟨rfl, H12.out⟩
  · go_wp2_with fail
    (with_reducible refine (firstL_any _).mono ?_)
    rintro _ w9 ⟨rfl, hb9⟩
    have hB9 := HB9.out
    have hO9 := HO9.out
    generalize hW : w8.setCell ⟨gd, q, none⟩ _ = W at hb9 hB9 hO9
    have hWs : W.heap.size = w8.heap.size := by rw [← hW]; simp
    have b97 : Below w7.heap.size w7 w9 := below_two (below_alloc hB9 _) hb9
    have hblk := blk_below (heap_alloc_new W _) hb9
    rw [hWs] at hblk
    have hO10 := own_below' hO9 (below_two (below_alloc (Below.refl _ _) _) hb9)
    have hw9 : Below w.heap.size w w9 := HB7.out.trans (b97.mono HB7.out.size)
    have hRd : ReadsInt w9 .u8 (some ⟨gd, 0, none⟩) lb (flipB b bt) := by rw [hfl.out]; exact own_reads_of hO10
    have hwant := readsL_lit [(Aa, ca, a), (Ab, cb, b), (Ac, cc, c)] (by simpa [HLa.out, HLb.out, HLc.out] using hblk) (by
      intro e he
      simp only [List.mem_cons, List.not_mem_nil, or_false] at he
      rcases he with rfl | rfl | rfl
      · exact (show ReadsInt w9 .u8 Aa a.length a by rw [HLa.out]; exact HRa.out.below hw9)
      · exact (show ReadsInt w9 .u8 Ab b.length b by rw [HLb.out]; exact HRb.out.below hw9)
      · exact (show ReadsInt w9 .u8 Ac c.length c by rw [HLc.out]; exact HRc.out.below hw9)) (by simp)
    have hw : wantL kind (bitOf arg b.length) a b c = [a, b, c] := by unfold wantL; rw [if_neg (by omega), if_neg (by omega), if_neg (by omega), if_neg (by omega)]
    have hr7 := HR7.out
    rw [hw] at hr7
    obtain ⟨Ao, co, hrv, hro⟩ := (hr7.below b97).reads
    subst hrv
    have HRo := Aside0.mk (show ReadsL w9 Ao 3 [a, b, c] from hro)
    have HWa := Aside0.mk (show ReadsL w9 (some ⟨w8.heap.size, 0, none⟩) 3 [a, b, c] from hwant)
    have HWy := Aside0.mk (show ∀ f ∈ ([a, b, c] : List (List Int)), Bytes f by
      intro f hf
      simp only [List.mem_cons, List.not_mem_nil, or_false] at hf
      rcases hf with rfl | rfl | rfl
      · exact HBy.out.1
      · exact HBy.out.2.1
      · exact HBy.out.2.2)
    have hS9 := HS7.out.below b97
    have HS9 := Aside0.mk (fun m => IsLn.below hS9 (pw_below_drewN (Below.refl w9.heap.size w9) m))
    have H9 := Aside0.mk hw9
    clear hW hblk hO9 hO10 hRd hwant hw hr7 hro hB9 hb9 b97 hw9 hS9
    simp only [List.length_cons, List.length_nil, Nat.reduceAdd]
    go_wp2_with fail
    (with_reducible refine (lists_same Ao _ 3 co 3 [a, b, c] _ HRo.out HWa.out HWy.out).mono ?_)
    rintro _ w10 ⟨rfl, m, rfl⟩
    go_wp2_with fail
    (with_reducible refine (heldL_any w.heap.size g _ _ _ (HS9.out m)).mono ?_)
    rintro _ w11 ⟨rfl, rfl⟩
    go_wp2_with fail
    (with_reducible refine (takeL_any w.heap.size g _ _ _ (HS9.out m)).mono ?_)
    rintro _ w12 ⟨rfl, _, _, hc12⟩
    have H12 := Aside0.mk ((pw_below_drewN H9.out m).trans (hc12.below lg2 (pw_below_drewN H9.out m).size))
    clear hc12
    go_wp2
    go_ret
    exact ⟨rfl, H12.out⟩
end Go.Proofs.Ythdjlhhdjanocaa
