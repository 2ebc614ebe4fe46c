/- Select before operate: the law of copies, and what a box keeps while other memory is written. Conditions: the arguments read as data. -/
import Derived.Test.YtoieognhjebcpaaSboE
namespace Go.Proofs.Ytoieognhjebcpaa
open Go.RowKit SboMath Go.Proofs.YtoieognhjebcpaaW.PrintWords
set_option linter.unusedVariables false

/-- The row of block g's bytes lies in block R or later. -/
def RowFrom (R : Nat) (w : World) (g : Nat) : Prop := ∀ cs t v, w.heap[g]? = some (.cells cs t (0, 0)) → cs[4]? = some v → ∀ k, v.ownBlock = some k → R ≤ k
theorem RowFrom.below {R : Nat} {w w1 : World} {g : Nat} (h : RowFrom R w g) (hg : g < w.heap.size) (hb : Below w.heap.size w w1) : RowFrom R w1 g := by
  intro cs t v h1
  rw [hb.block g hg] at h1
  exact h cs t v h1
set_option maxHeartbeats 1000000 in
set_option maxRecDepth 100000 in
theorem select_from (B : Nat) (g : Nat) (x : Bx) (now seq : Int) (A : Option Addr) (n c : Nat) (l : List Int) (w : World) (hx : IsBox B w g x) (HR : ReadsInt w .u8 A n l) (hb : Bytes l) (hsz : n ≤ 140737488355328) (hBw : B ≤ w.heap.size) :
    Calls Try.prog 10 #[.pointer (some ⟨g, 0, none⟩), .int .i64 now, .int .i64 seq, .slice A n c] w fun e w' => e = .returned (.tuple #[]) ∧ IsBox B w' g (x.sel now seq l) ∧ Chg g w w' ∧ RowFrom w.heap.size w' g := by
  obtain ⟨v, hg, hv, hB, hs0, hs1, hbb⟩ := hx
  have h15 := and15
  have HR0 := Aside0.mk HR
  clear HR
  go_enter Try.func10, Try.ntmps10
  go_wp2_with fail
  (with_reducible refine (clone_any A n c l _ HR0.out hsz).mono ?_)
  rintro e w1 ⟨v1, rfl, ho, hb1⟩
  have hg1 := (hb1.block g (blk_lt hg)).trans hg
  have HO := Aside0.mk (own_weaken ho hBw)
  have HF := Aside0.mk (own_base ho)
  have HG := Aside0.mk hg1
  have HC := Aside0.mk (Chg.of_below (g := g) hb1)
  have c1 : w1.cell? ⟨g, 1, none⟩ = some (.bool x.is) := blk_cell hg1 1
  have c2 : w1.cell? ⟨g, 2, none⟩ = some (.int .i64 x.at_) := blk_cell hg1 2
  have c3 : w1.cell? ⟨g, 3, none⟩ = some (.int .i64 x.seq) := blk_cell hg1 3
  have c4 : w1.cell? ⟨g, 4, none⟩ = some v := blk_cell hg1 4
  have f1 := blk_frozen hg1 1
  have f2 := blk_frozen hg1 2
  have f3 := blk_frozen hg1 3
  have f4 := blk_frozen hg1 4
  obtain ⟨A1, cc1, rfl⟩ := own_slice ho
  clear hg hg1 hv hs0 hs1 hbb hb1 ho
  go_wp2
  go_end0
  obtain ⟨o1, k1⟩ := own_box HO.out HG.out (by decide) 1 (.bool true)
  obtain ⟨o2, k2⟩ := own_box o1 k1 (by decide) 2 (.int .i64 now)
  obtain ⟨o3, k3⟩ := own_box o2 k2 (by decide) 3 (.int .i64 (seq % 16))
  obtain ⟨o4, k4⟩ := own_box o3 k3 (by decide) 4 (.slice A1 l.length cc1)
  refine ⟨rfl, ⟨.slice A1 l.length cc1, ?_, o4, hB, by show 0 ≤ seq % 16; omega, by show seq % 16 < 16; omega, hb⟩, HC.out.trans ((((Chg.refl g _).set 1 _).set 2 _ |>.set 3 _).set 4 _), ?_⟩
  · simpa [Bx.sel] using k4
  · intro cs t u h1 h2 k hk
    rw [k4] at h1
    injection h1 with h1
    injection h1 with h1
    subst h1
    simp at h2
    subst h2
    exact HF.out k hk
/-- A box outlives writes to a block that is neither its own nor its bytes'. -/
theorem IsBox.aside {B R : Nat} {w w1 : World} {g gi : Nat} {x : Bx} (h : IsBox B w g x) (hr : RowFrom R w g) (hc : Chg gi w w1) (h1 : gi < R) (h2 : g ≠ gi) : IsBox B w1 g x ∧ RowFrom R w1 g := by
  obtain ⟨v, hg, hv, r⟩ := h
  have hg1 := (hc.block g (blk_lt hg) h2).trans hg
  refine ⟨⟨v, hg1, ⟨hv.1, ?_⟩, r⟩, ?_⟩
  · rcases hv.2 with h0 | ⟨gb, cap, cur, rfl, hb, hh, q⟩
    · exact .inl h0
    · refine .inr ⟨gb, cap, cur, rfl, hb, ?_, q⟩
      have := hr _ _ _ hg rfl gb rfl
      rw [hc.block gb (blk_lt hh) (by omega)]; exact hh
  · intro cs t u h3
    rw [hg1] at h3
    exact hr cs t u (hg.trans h3)

/-- Bytes that are bytes, after one is turned on. -/
theorem bytes_set {l : List Int} (h : Bytes l) (i : Nat) (v : Int) (h0 : 0 ≤ v) (h1 : v < 256) : Bytes (l.set i v) := by
  intro x hx
  rcases List.mem_or_eq_of_mem_set hx with h' | h'
  · exact h x h'
  · subst h'; exact ⟨h0, h1⟩
theorem rd_bytes {l : List Int} (h : Bytes l) (j : Nat) (hj : j < l.length) : 0 ≤ rd l j ∧ rd l j < 256 := by
  unfold rd
  rw [Int.toNat_natCast, List.getD_eq_getElem?_getD, List.getElem?_eq_getElem hj]
  exact h _ (List.getElem_mem hj)


set_option maxHeartbeats 4000000 in
set_option maxRecDepth 100000 in
theorem sboCopies_walk (ticks at_ seq : Int) (A : Option Addr) (n c : Nat) (l : List Int) (w : World) (HR : ReadsInt w .u8 A n l) (hl : Bytes l) (ht : ticks ≤ 9223372036854775807) :
    Calls Try.prog 7 #[.int .i64 ticks, .int .i64 at_, .int .i64 seq, .slice A n c] w fun e w' => e = .returned (.bool true) ∧ Below w.heap.size w w' := by
  have HRw := Aside0.mk HR
  have HX := Aside0.mk hl
  have hn := HR.2.1
  have HL := Aside0.mk HR.1
  clear HR hl
  by_cases hgo : n ≤ 6000 ∧ 0 ≤ at_ ∧ at_ ≤ 1099511627776 ∧ 0 ≤ seq ∧ seq ≤ 15
  · obtain ⟨g1, g3, g4, g5, g6⟩ := hgo
    have hA := live_plain (x := Bx.new ticks) (seq := seq) (l := l) g3 g4 g3 g4 (new_ticks ticks) (new_ticks_le ticks ht)
    have hA1 : ((Bx.new ticks).sel at_ seq l).live at_ = true := by rw [hA]; have := new_ticks ticks; simp; omega
    have HM := Aside0.mk (show ((Bx.new ticks).sel at_ seq l).hit at_ (seq + 1) l = true by
      have e0 : (seq + 1) % 16 = (seq % 16 + 1) % 16 := by omega
      show (((Bx.new ticks).sel at_ seq l).live at_ && (decide ((seq + 1) % 16 = (seq % 16 + 1) % 16) && decide (l = l))) = _
      rw [hA1, e0]; simp)
    have HN := Aside0.mk (show (((Bx.new ticks).sel at_ seq l).matched true).hit at_ (seq + 1) l = false from rfl)
    have HV := Aside0.mk (show ((((Bx.new ticks).sel at_ seq l).matched true).matched false).live at_ = false from rfl)
    have hd1 : decide ((6000 : Int) < (n : Int)) = false := by simp; omega
    have hd2 : decide (at_ < 0) = false := by simp; omega
    have hd3 : decide ((1099511627776 : Int) < at_) = false := by simp; omega
    have hd4 : decide (seq < 0) = false := by simp; omega
    have hd5 : decide ((15 : Int) < seq) = false := by simp; omega
    have hsz5 : ((Bx.new ticks).sel at_ seq l).b.length ≤ 140737488355328 := by show l.length ≤ 140737488355328; rw [HL.out]; omega
    have HSZ := Aside0.mk hsz5
    clear hA hA1 hsz5
    go_enter Try.func7, Try.ntmps7
    go_wp2_with fail
    (with_reducible refine (first_any _).mono ?_)
    rintro e w1 ⟨rfl, hb⟩
    have HB1 := Aside0.mk hb
    clear hb
    go_wp2_with fail
    (with_reducible refine (new_any w.heap.size ticks _ HB1.out.size).mono ?_)
    rintro e w2 ⟨g, rfl, hx, hg, hb⟩
    have X2 := Aside0.mk hx
    have hgw : w.heap.size ≤ g := Nat.le_trans HB1.out.size hg
    have HB2 := Aside0.mk (below_two HB1.out hb)
    clear hx hb hg
    go_wp2_with fail
    (with_reducible refine (copyBytes_any A n c l w2 (HRw.out.below HB2.out) (by omega)).mono ?_)
    rintro e w3 ⟨v, rfl, ho, hb⟩
    have HB3 := Aside0.mk (below_two HB2.out hb)
    have X3 := Aside0.mk (X2.out.below hb)
    have hgl : g < w2.heap.size := X2.out.lt
    rw [HL.out] at ho
    obtain ⟨A3, c3, rfl, HS⟩ := own_reads ho
    have HO3 := Aside0.mk ho
    clear hb ho X2
    go_wp2_with fail
    (with_reducible refine (select_from w.heap.size g _ at_ seq _ _ _ l _ X3.out HS HX.out (by omega) HB3.out.size).mono ?_)
    rintro e w4 ⟨rfl, hx, hc, hr⟩
    have X4 := Aside0.mk (And.intro hx hr)
    have HB4 := Aside0.mk (below_chg HB3.out hc hgw)
    have HO4 := Aside0.mk (show w4.ownsRow w2.heap.size 5 1 (.slice A3 n c3) n (nums .u8 l) by
      obtain ⟨v, hg, _⟩ := X3.out
      have hvb := own_ne HO3.out hg (by decide)
      refine ⟨HO3.out.1, ?_⟩
      rcases HO3.out.2 with h0 | ⟨gb, cap, cur, h1, hb, hh, q⟩
      · exact .inl h0
      · refine .inr ⟨gb, cap, cur, h1, hb, ?_, q⟩
        rw [hc.block gb (blk_lt hh) (fun e => hvb (by rw [h1, e]; rfl))]; exact hh)
    have hR : w3.heap.size = w3.heap.size := rfl
    have HC3 := Aside0.mk (show ∀ k, (Value.slice A3 n c3).ownBlock = some k → w2.heap.size ≤ k ∧ k < w3.heap.size from fun k hk => ⟨own_base HO3.out k hk, own_lt HO3.out k hk⟩)
    clear hx hc hr HS hR X3 HO3
    go_wp2
    go_loopw [11] (fun i wr => ∃ j : Nat, j ≤ n ∧ i = .int .i64 j ∧ Aside0 (∃ l', wr.ownsRow w2.heap.size 5 1 (.slice A3 n c3) n (nums .u8 l') ∧ Bytes l') ∧ Aside0 (IsBox w.heap.size wr g ((Bx.new ticks).sel at_ seq l) ∧ RowFrom w3.heap.size wr g) ∧ Aside0 (Below w.heap.size w wr)) (fun i _ => n - (intOf i).toNat)
    case atStart => exact ⟨0, Nat.zero_le _, rfl, ⟨l, HO4.out, HX.out⟩, X4, HB4⟩
    case round =>
      obtain ⟨j, hj, rfl, HO, HXX, HB⟩ := hrel
      by_cases hlt : j < n
      · obtain ⟨l', ho, hbl⟩ := HO.out
        obtain ⟨gi, cap, e2, hgb, hgi⟩ := ho.form (by omega)
        injection e2 with e2a _ e2c
        subst e2a e2c
        have hlen : l'.length = n := by have := ho.1; simp [nums] at this; exact this
        have hcell := own_at ho (j : Int) (by omega) (by omega)
        rw [Int.toNat_natCast] at hcell
        obtain ⟨hcd, hfr⟩ := hcell
        have hr := rd_bytes hbl j (by omega)
        obtain ⟨x, hx⟩ : ∃ x, rd l' j = x := ⟨_, rfl⟩
        rw [hx] at hcd hr
        obtain ⟨hx0, hx1⟩ := hr
        have hst := own_store ho (j : Int) ((x + 1) % 256)
        rw [Int.toNat_natCast] at hst
        have HO2 := Aside0.mk (show ∃ l', (wr.setCell ⟨gi, j, none⟩ (.int .u8 ((x + 1) % 256))).ownsRow w2.heap.size 5 1 (.slice (some ⟨gi, 0, none⟩) n c3) n (nums .u8 l') ∧ Bytes l' from ⟨_, hst.1, bytes_set hbl j _ (by omega) (by omega)⟩)
        have hgi3 := (HC3.out gi rfl)
        have HX2 := Aside0.mk (HXX.out.1.aside HXX.out.2 ((Chg.refl gi wr).set j (.int .u8 ((x + 1) % 256))) hgi3.2 (by omega))
        have HB2' := Aside0.mk (HB.out.setCell (p := ⟨gi, j, none⟩) (Nat.le_trans HB2.out.size hgb) (.int .u8 ((x + 1) % 256)))
        clear ho hst hx hbl hlen
        go_wp2
        go_roundw
        case rel => exact ⟨j + 1, by omega, by go_num, HO2, HX2, HB2'⟩
        case measure => simp [intOf]; omega
      · clear HO4 HB4 X4
        go_wp2_with fail
        (with_reducible refine (copy_any w.heap.size g _ _ HXX.out.1 HB.out.size HSZ.out).mono ?_)
        rintro e w5 ⟨q, rfl, hx, hq, hb⟩
        have HB5 := Aside0.mk (below_two HB.out hb)
        have X5 := Aside0.mk (HXX.out.1.below hb)
        have Y5 := Aside0.mk hx
        have hqg : q ≠ g := by have := HXX.out.1.lt; omega
        clear hx hb hq HO
        go_wp2_with fail
        (with_reducible refine (match_any w.heap.size g _ at_ (seq + 1) _ _ _ l _ X5.out (HRw.out.below HB5.out) HX.out true HM.out).mono ?_)
        rintro e w6 ⟨rfl, hx, hc⟩
        have X6 := Aside0.mk hx
        have Y6 := Aside0.mk (Y5.out.other X5.out hc hqg)
        have HB6 := Aside0.mk (below_chg HB5.out hc X5.out.ge)
        clear hx hc
        go_wp2_with fail
        (with_reducible refine (match_any w.heap.size q _ at_ (seq + 1) _ _ _ l _ Y6.out (HRw.out.below HB6.out) HX.out true HM.out).mono ?_)
        rintro e w7 ⟨rfl, hx, hc⟩
        have Y7 := Aside0.mk hx
        have X7 := Aside0.mk (X6.out.other Y6.out hc (Ne.symm hqg))
        have HB7 := Aside0.mk (below_chg HB6.out hc Y6.out.ge)
        clear hx hc
        go_wp2_with fail
        (with_reducible refine (first_any _).mono ?_)
        rintro e w8 ⟨rfl, hb⟩
        have HB8 := Aside0.mk (below_two HB7.out hb)
        have X8 := Aside0.mk (X7.out.below hb)
        have Y8 := Aside0.mk (Y7.out.below hb)
        clear hb
        go_wp2_with fail
        (with_reducible refine (match_any w.heap.size g _ at_ (seq + 1) _ _ _ l _ X8.out (HRw.out.below HB8.out) HX.out false HN.out).mono ?_)
        rintro e w9 ⟨rfl, hx, hc⟩
        have X9 := Aside0.mk hx
        have Y9 := Aside0.mk (Y8.out.other X8.out hc hqg)
        have HB9 := Aside0.mk (below_chg HB8.out hc X8.out.ge)
        clear hx hc
        go_wp2_with fail
        (with_reducible refine (match_any w.heap.size q _ at_ (seq + 1) _ _ _ l _ Y9.out (HRw.out.below HB9.out) HX.out false HN.out).mono ?_)
        rintro e w10 ⟨rfl, hx, hc⟩
        have Y10 := Aside0.mk hx
        have X10 := Aside0.mk (X9.out.other Y9.out hc (Ne.symm hqg))
        have HB10 := Aside0.mk (below_chg HB9.out hc Y9.out.ge)
        clear hx hc
        go_wp2_with fail
        (with_reducible refine (live_any w.heap.size g _ at_ _ X10.out false HV.out).mono ?_)
        rintro e w11 ⟨rfl, m, hw⟩
        have HB11 := Aside0.mk (show Below w.heap.size w w11 by rw [hw]; exact pw_below_drewN HB10.out m)
        have X11 := Aside0.mk (show IsBox w.heap.size w11 g _ by rw [hw]; exact X10.out.drewN m)
        have Y11 := Aside0.mk (show IsBox w.heap.size w11 q _ by rw [hw]; exact Y10.out.drewN m)
        clear hw
        go_wp2_with fail
        (with_reducible refine (live_any w.heap.size q _ at_ _ Y11.out false HV.out).mono ?_)
        rintro e w12 ⟨rfl, m, hw⟩
        have HB12 := Aside0.mk (show Below w.heap.size w w12 by rw [hw]; exact pw_below_drewN HB11.out m)
        have X12 := Aside0.mk (show IsBox w.heap.size w12 g _ by rw [hw]; exact X11.out.drewN m)
        have Y12 := Aside0.mk (show IsBox w.heap.size w12 q _ by rw [hw]; exact Y11.out.drewN m)
        clear hw
        go_wp2
        go_ret
        exact ⟨rfl, HB12.out⟩
  · go_enter Try.func7, Try.ntmps7
    go_wp2_with fail
    (with_reducible refine (first_any _).mono ?_)
    rintro e w1 ⟨rfl, hb⟩
    have HB1 := Aside0.mk hb
    clear hb
    go_wp2_with fail
    (with_reducible refine (new_any w.heap.size ticks _ HB1.out.size).mono ?_)
    rintro e w2 ⟨g, rfl, hx, hg, hb⟩
    have X2 := Aside0.mk hx
    have hgw : w.heap.size ≤ g := Nat.le_trans HB1.out.size hg
    have HB2 := Aside0.mk (below_two HB1.out hb)
    clear hx hb hg
    go_wp2_with fail
    all_goals
      refine (first_any _).mono ?_
      rintro e w3 ⟨rfl, hb⟩
      have HB3 := Aside0.mk (below_two HB2.out hb)
      clear hb
      go_wp2
      go_ret
      exact ⟨rfl, HB3.out⟩
end Go.Proofs.Ytoieognhjebcpaa
