/- Select before operate: the laws of times, of the last selection, of copies. Conditions: the arguments read as data. -/
import Derived.Test.YtoieognhjebcpaaSboD
namespace Go.Proofs.Ytoieognhjebcpaa
open Go.RowKit SboMath Go.Proofs.YtoieognhjebcpaaW.PrintWords
set_option linter.unusedVariables false

set_option maxHeartbeats 4000000 in
set_option maxRecDepth 100000 in
theorem sboTimes_walk (ticks at_ now seq next : Int) (A : Option Addr) (n c : Nat) (l : List Int) (w : World) (HR : ReadsInt w .u8 A n l) (hl : Bytes l) (ht : ticks ≤ 9223372036854775807) :
    Calls Try.prog 4 #[.int .i64 ticks, .int .i64 at_, .int .i64 now, .int .i64 seq, .int .i64 next, .slice A n c] w fun e w' => e = .returned (.bool true) ∧ Below w.heap.size w w' := by
  have h15 := and15
  have HRw := Aside0.mk HR
  have HX := Aside0.mk hl
  have hn := HR.2.1
  clear HR hl
  by_cases hgo : n ≤ 6000 ∧ 0 ≤ at_ ∧ at_ ≤ 1099511627776 ∧ 0 ≤ now ∧ now ≤ 1099511627776
  · obtain ⟨g1, g3, g4, g5, g6⟩ := hgo
    have HL := Aside0.mk (live_plain (x := Bx.new ticks) (seq := seq) (l := l) g3 g4 g5 g6 (new_ticks ticks) (new_ticks_le ticks ht))
    have HA := Aside0.mk (live_plain (x := Bx.new ticks) (seq := seq) (l := l) g3 g4 g3 g4 (new_ticks ticks) (new_ticks_le ticks ht))
    have hA1 : ((Bx.new ticks).sel at_ seq l).live at_ = true := by rw [HA.out]; have := new_ticks ticks; simp; omega
    have HA1 := Aside0.mk hA1
    have HT := Aside0.mk (show (Bx.new ticks).ticks = (if ticks < 1 then 1 else ticks) from rfl)
    rw [HT.out] at HL
    obtain ⟨T, hT⟩ : ∃ T, (if ticks < 1 then 1 else ticks) = T := ⟨_, rfl⟩
    rw [hT] at HL
    clear HA hA1
    go_enter Try.func4, Try.ntmps4
    go_wp2_with fail
    (with_reducible refine (first_any _).mono ?_)
    rintro e w1 ⟨rfl, hb⟩
    have HB1 := Aside0.mk hb
    clear hb
    go_wp2_with fail
    (with_reducible refine (new_any w.heap.size ticks _ HB1.out.size).mono ?_)
    rintro e w2 ⟨g, rfl, hx, hg, hb⟩
    have X2 := Aside0.mk hx
    have hgw : w.heap.size ≤ g := Nat.le_trans HB1.out.size hg
    have HB2 := Aside0.mk (below_two HB1.out hb)
    clear hx hb hg
    go_wp2_with fail
    (with_reducible refine (select_any w.heap.size g _ at_ seq _ _ _ l _ X2.out (HRw.out.below HB2.out) HX.out (by omega) HB2.out.size).mono ?_)
    rintro e w3 ⟨rfl, hx, hc⟩
    have X3 := Aside0.mk hx
    have HB3 := Aside0.mk (below_chg HB2.out hc hgw)
    clear hx hc
    obtain ⟨b1, e1⟩ : ∃ b, decide (at_ ≤ now) = b := ⟨_, rfl⟩
    obtain ⟨b2, e2⟩ : ∃ b, decide (now - at_ < T) = b := ⟨_, rfl⟩
    obtain ⟨b3, e3⟩ : ∃ b, (next % 16 != (seq + 1) % 16) = b := ⟨_, rfl⟩
    rw [e1, e2] at HL
    have HH := Aside0.mk (show ((Bx.new ticks).sel at_ seq l).hit now next l = (((Bx.new ticks).sel at_ seq l).live now && !b3) by
      have e0 : (seq % 16 + 1) % 16 = (seq + 1) % 16 := by omega
      show (((Bx.new ticks).sel at_ seq l).live now && (decide (next % 16 = (seq % 16 + 1) % 16) && decide (l = l))) = _
      rw [e0, ← e3]
      have : decide (l = l) = true := decide_eq_true rfl
      rw [this, Bool.and_true]
      congr 1
      by_cases h : next % 16 = (seq + 1) % 16 <;> simp [h])
    have HLb : ∀ L, (b1 && b2) = L → ((Bx.new ticks).sel at_ seq l).live now = L := fun L h => HL.out.trans h
    have HHb : ∀ L, ((b1 && b2) && !b3) = L → ((Bx.new ticks).sel at_ seq l).hit now next l = L := fun L h => by rw [HH.out, HL.out]; exact h
    cases b1 <;> cases b2 <;> cases b3
    · have L1 := Aside0.mk (HLb false rfl)
      have M1 := Aside0.mk (HHb false rfl)
      have L2 := Aside0.mk (show (((Bx.new ticks).sel at_ seq l).matched false).live now = false from by first | exact HLb false rfl | rfl)
      have L3 := Aside0.mk (show (((Bx.new ticks).sel at_ seq l).matched false).live at_ = true from by first | exact HA1.out | rfl)
      clear HLb HHb
      go_wp2_with fail
      (with_reducible refine (live_any w.heap.size g _ now _ X3.out false L1.out).mono ?_)
      rintro e w4 ⟨rfl, m, hw⟩
      have HB4 := Aside0.mk (show Below w.heap.size w w4 by rw [hw]; exact pw_below_drewN HB3.out m)
      have X4 := Aside0.mk (show IsBox w.heap.size w4 g _ by rw [hw]; exact X3.out.drewN m)
      clear hw
      go_wp2_with fail
      (with_reducible refine (first_any _).mono ?_)
      rintro e w5 ⟨rfl, hb⟩
      have HB5 := Aside0.mk (below_two HB4.out hb)
      have X5 := Aside0.mk (X4.out.below hb)
      clear hb
      go_wp2_with fail
      (with_reducible refine (match_any w.heap.size g _ now next _ _ _ l _ X5.out (HRw.out.below HB5.out) HX.out false M1.out).mono ?_)
      rintro e w6 ⟨rfl, hx, hc⟩
      have X6 := Aside0.mk hx
      have HB6 := Aside0.mk (below_chg HB5.out hc hgw)
      clear hx hc
      go_wp2_with fail
      (with_reducible refine (live_any w.heap.size g _ now _ X6.out false L2.out).mono ?_)
      rintro e w7 ⟨rfl, m, hw⟩
      have HB7 := Aside0.mk (show Below w.heap.size w w7 by rw [hw]; exact pw_below_drewN HB6.out m)
      have X7 := Aside0.mk (show IsBox w.heap.size w7 g _ by rw [hw]; exact X6.out.drewN m)
      clear hw
      go_wp2_with fail
      (with_reducible refine (live_any w.heap.size g _ at_ _ X7.out true L3.out).mono ?_)
      rintro e w8 ⟨rfl, m, hw⟩
      have HB8 := Aside0.mk (show Below w.heap.size w w8 by rw [hw]; exact pw_below_drewN HB7.out m)
      have X8 := Aside0.mk (show IsBox w.heap.size w8 g _ by rw [hw]; exact X7.out.drewN m)
      clear hw
      go_wp2
      go_ret
      exact ⟨rfl, HB8.out⟩
    · have L1 := Aside0.mk (HLb false rfl)
      have M1 := Aside0.mk (HHb false rfl)
      have L2 := Aside0.mk (show (((Bx.new ticks).sel at_ seq l).matched false).live now = false from HLb false rfl)
      clear HLb HHb
      go_wp2_with fail
      (with_reducible refine (live_any w.heap.size g _ now _ X3.out false L1.out).mono ?_)
      rintro e w4 ⟨rfl, m, hw⟩
      have HB4 := Aside0.mk (show Below w.heap.size w w4 by rw [hw]; exact pw_below_drewN HB3.out m)
      have X4 := Aside0.mk (show IsBox w.heap.size w4 g _ by rw [hw]; exact X3.out.drewN m)
      clear hw
      go_wp2_with fail
      (with_reducible refine (first_any _).mono ?_)
      rintro e w5 ⟨rfl, hb⟩
      have HB5 := Aside0.mk (below_two HB4.out hb)
      have X5 := Aside0.mk (X4.out.below hb)
      clear hb
      go_wp2_with fail
      (with_reducible refine (match_any w.heap.size g _ now next _ _ _ l _ X5.out (HRw.out.below HB5.out) HX.out false M1.out).mono ?_)
      rintro e w6 ⟨rfl, hx, hc⟩
      have X6 := Aside0.mk hx
      have HB6 := Aside0.mk (below_chg HB5.out hc hgw)
      clear hx hc
      go_wp2_with fail
      (with_reducible refine (live_any w.heap.size g _ now _ X6.out false L2.out).mono ?_)
      rintro e w7 ⟨rfl, m, hw⟩
      have HB7 := Aside0.mk (show Below w.heap.size w w7 by rw [hw]; exact pw_below_drewN HB6.out m)
      have X7 := Aside0.mk (show IsBox w.heap.size w7 g _ by rw [hw]; exact X6.out.drewN m)
      clear hw
      go_wp2
      go_ret
      exact ⟨rfl, HB7.out⟩
    · have L1 := Aside0.mk (HLb false rfl)
      have M1 := Aside0.mk (HHb false rfl)
      have L2 := Aside0.mk (show (((Bx.new ticks).sel at_ seq l).matched false).live now = false from by first | exact HLb false rfl | rfl)
      have L3 := Aside0.mk (show (((Bx.new ticks).sel at_ seq l).matched false).live at_ = true from by first | exact HA1.out | rfl)
      clear HLb HHb
      go_wp2_with fail
      (with_reducible refine (live_any w.heap.size g _ now _ X3.out false L1.out).mono ?_)
      rintro e w4 ⟨rfl, m, hw⟩
      have HB4 := Aside0.mk (show Below w.heap.size w w4 by rw [hw]; exact pw_below_drewN HB3.out m)
      have X4 := Aside0.mk (show IsBox w.heap.size w4 g _ by rw [hw]; exact X3.out.drewN m)
      clear hw
      go_wp2_with fail
      (with_reducible refine (first_any _).mono ?_)
      rintro e w5 ⟨rfl, hb⟩
      have HB5 := Aside0.mk (below_two HB4.out hb)
      have X5 := Aside0.mk (X4.out.below hb)
      clear hb
      go_wp2_with fail
      (with_reducible refine (match_any w.heap.size g _ now next _ _ _ l _ X5.out (HRw.out.below HB5.out) HX.out false M1.out).mono ?_)
      rintro e w6 ⟨rfl, hx, hc⟩
      have X6 := Aside0.mk hx
      have HB6 := Aside0.mk (below_chg HB5.out hc hgw)
      clear hx hc
      go_wp2_with fail
      (with_reducible refine (live_any w.heap.size g _ now _ X6.out false L2.out).mono ?_)
      rintro e w7 ⟨rfl, m, hw⟩
      have HB7 := Aside0.mk (show Below w.heap.size w w7 by rw [hw]; exact pw_below_drewN HB6.out m)
      have X7 := Aside0.mk (show IsBox w.heap.size w7 g _ by rw [hw]; exact X6.out.drewN m)
      clear hw
      go_wp2_with fail
      (with_reducible refine (live_any w.heap.size g _ at_ _ X7.out true L3.out).mono ?_)
      rintro e w8 ⟨rfl, m, hw⟩
      have HB8 := Aside0.mk (show Below w.heap.size w w8 by rw [hw]; exact pw_below_drewN HB7.out m)
      have X8 := Aside0.mk (show IsBox w.heap.size w8 g _ by rw [hw]; exact X7.out.drewN m)
      clear hw
      go_wp2
      go_ret
      exact ⟨rfl, HB8.out⟩
    · have L1 := Aside0.mk (HLb false rfl)
      have M1 := Aside0.mk (HHb false rfl)
      have L2 := Aside0.mk (show (((Bx.new ticks).sel at_ seq l).matched false).live now = false from HLb false rfl)
      clear HLb HHb
      go_wp2_with fail
      (with_reducible refine (live_any w.heap.size g _ now _ X3.out false L1.out).mono ?_)
      rintro e w4 ⟨rfl, m, hw⟩
      have HB4 := Aside0.mk (show Below w.heap.size w w4 by rw [hw]; exact pw_below_drewN HB3.out m)
      have X4 := Aside0.mk (show IsBox w.heap.size w4 g _ by rw [hw]; exact X3.out.drewN m)
      clear hw
      go_wp2_with fail
      (with_reducible refine (first_any _).mono ?_)
      rintro e w5 ⟨rfl, hb⟩
      have HB5 := Aside0.mk (below_two HB4.out hb)
      have X5 := Aside0.mk (X4.out.below hb)
      clear hb
      go_wp2_with fail
      (with_reducible refine (match_any w.heap.size g _ now next _ _ _ l _ X5.out (HRw.out.below HB5.out) HX.out false M1.out).mono ?_)
      rintro e w6 ⟨rfl, hx, hc⟩
      have X6 := Aside0.mk hx
      have HB6 := Aside0.mk (below_chg HB5.out hc hgw)
      clear hx hc
      go_wp2_with fail
      (with_reducible refine (live_any w.heap.size g _ now _ X6.out false L2.out).mono ?_)
      rintro e w7 ⟨rfl, m, hw⟩
      have HB7 := Aside0.mk (show Below w.heap.size w w7 by rw [hw]; exact pw_below_drewN HB6.out m)
      have X7 := Aside0.mk (show IsBox w.heap.size w7 g _ by rw [hw]; exact X6.out.drewN m)
      clear hw
      go_wp2
      go_ret
      exact ⟨rfl, HB7.out⟩
    · have L1 := Aside0.mk (HLb false rfl)
      have M1 := Aside0.mk (HHb false rfl)
      have L2 := Aside0.mk (show (((Bx.new ticks).sel at_ seq l).matched false).live now = false from by first | exact HLb false rfl | rfl)
      have L3 := Aside0.mk (show (((Bx.new ticks).sel at_ seq l).matched false).live at_ = true from by first | exact HA1.out | rfl)
      clear HLb HHb
      go_wp2_with fail
      (with_reducible refine (live_any w.heap.size g _ now _ X3.out false L1.out).mono ?_)
      rintro e w4 ⟨rfl, m, hw⟩
      have HB4 := Aside0.mk (show Below w.heap.size w w4 by rw [hw]; exact pw_below_drewN HB3.out m)
      have X4 := Aside0.mk (show IsBox w.heap.size w4 g _ by rw [hw]; exact X3.out.drewN m)
      clear hw
      go_wp2_with fail
      (with_reducible refine (first_any _).mono ?_)
      rintro e w5 ⟨rfl, hb⟩
      have HB5 := Aside0.mk (below_two HB4.out hb)
      have X5 := Aside0.mk (X4.out.below hb)
      clear hb
      go_wp2_with fail
      (with_reducible refine (match_any w.heap.size g _ now next _ _ _ l _ X5.out (HRw.out.below HB5.out) HX.out false M1.out).mono ?_)
      rintro e w6 ⟨rfl, hx, hc⟩
      have X6 := Aside0.mk hx
      have HB6 := Aside0.mk (below_chg HB5.out hc hgw)
      clear hx hc
      go_wp2_with fail
      (with_reducible refine (live_any w.heap.size g _ now _ X6.out false L2.out).mono ?_)
      rintro e w7 ⟨rfl, m, hw⟩
      have HB7 := Aside0.mk (show Below w.heap.size w w7 by rw [hw]; exact pw_below_drewN HB6.out m)
      have X7 := Aside0.mk (show IsBox w.heap.size w7 g _ by rw [hw]; exact X6.out.drewN m)
      clear hw
      go_wp2_with fail
      (with_reducible refine (live_any w.heap.size g _ at_ _ X7.out true L3.out).mono ?_)
      rintro e w8 ⟨rfl, m, hw⟩
      have HB8 := Aside0.mk (show Below w.heap.size w w8 by rw [hw]; exact pw_below_drewN HB7.out m)
      have X8 := Aside0.mk (show IsBox w.heap.size w8 g _ by rw [hw]; exact X7.out.drewN m)
      clear hw
      go_wp2
      go_ret
      exact ⟨rfl, HB8.out⟩
    · have L1 := Aside0.mk (HLb false rfl)
      have M1 := Aside0.mk (HHb false rfl)
      have L2 := Aside0.mk (show (((Bx.new ticks).sel at_ seq l).matched false).live now = false from HLb false rfl)
      clear HLb HHb
      go_wp2_with fail
      (with_reducible refine (live_any w.heap.size g _ now _ X3.out false L1.out).mono ?_)
      rintro e w4 ⟨rfl, m, hw⟩
      have HB4 := Aside0.mk (show Below w.heap.size w w4 by rw [hw]; exact pw_below_drewN HB3.out m)
      have X4 := Aside0.mk (show IsBox w.heap.size w4 g _ by rw [hw]; exact X3.out.drewN m)
      clear hw
      go_wp2_with fail
      (with_reducible refine (first_any _).mono ?_)
      rintro e w5 ⟨rfl, hb⟩
      have HB5 := Aside0.mk (below_two HB4.out hb)
      have X5 := Aside0.mk (X4.out.below hb)
      clear hb
      go_wp2_with fail
      (with_reducible refine (match_any w.heap.size g _ now next _ _ _ l _ X5.out (HRw.out.below HB5.out) HX.out false M1.out).mono ?_)
      rintro e w6 ⟨rfl, hx, hc⟩
      have X6 := Aside0.mk hx
      have HB6 := Aside0.mk (below_chg HB5.out hc hgw)
      clear hx hc
      go_wp2_with fail
      (with_reducible refine (live_any w.heap.size g _ now _ X6.out false L2.out).mono ?_)
      rintro e w7 ⟨rfl, m, hw⟩
      have HB7 := Aside0.mk (show Below w.heap.size w w7 by rw [hw]; exact pw_below_drewN HB6.out m)
      have X7 := Aside0.mk (show IsBox w.heap.size w7 g _ by rw [hw]; exact X6.out.drewN m)
      clear hw
      go_wp2
      go_ret
      exact ⟨rfl, HB7.out⟩
    · have L1 := Aside0.mk (HLb true rfl)
      have M1 := Aside0.mk (HHb true rfl)
      have L2 := Aside0.mk (show (((Bx.new ticks).sel at_ seq l).matched true).live now = false from by first | exact HLb false rfl | rfl)
      have L3 := Aside0.mk (show (((Bx.new ticks).sel at_ seq l).matched true).live at_ = false from by first | exact HA1.out | rfl)
      clear HLb HHb
      go_wp2_with fail
      (with_reducible refine (live_any w.heap.size g _ now _ X3.out true L1.out).mono ?_)
      rintro e w4 ⟨rfl, m, hw⟩
      have HB4 := Aside0.mk (show Below w.heap.size w w4 by rw [hw]; exact pw_below_drewN HB3.out m)
      have X4 := Aside0.mk (show IsBox w.heap.size w4 g _ by rw [hw]; exact X3.out.drewN m)
      clear hw
      go_wp2_with fail
      (with_reducible refine (first_any _).mono ?_)
      rintro e w5 ⟨rfl, hb⟩
      have HB5 := Aside0.mk (below_two HB4.out hb)
      have X5 := Aside0.mk (X4.out.below hb)
      clear hb
      go_wp2_with fail
      (with_reducible refine (match_any w.heap.size g _ now next _ _ _ l _ X5.out (HRw.out.below HB5.out) HX.out true M1.out).mono ?_)
      rintro e w6 ⟨rfl, hx, hc⟩
      have X6 := Aside0.mk hx
      have HB6 := Aside0.mk (below_chg HB5.out hc hgw)
      clear hx hc
      go_wp2_with fail
      (with_reducible refine (live_any w.heap.size g _ now _ X6.out false L2.out).mono ?_)
      rintro e w7 ⟨rfl, m, hw⟩
      have HB7 := Aside0.mk (show Below w.heap.size w w7 by rw [hw]; exact pw_below_drewN HB6.out m)
      have X7 := Aside0.mk (show IsBox w.heap.size w7 g _ by rw [hw]; exact X6.out.drewN m)
      clear hw
      go_wp2_with fail
      (with_reducible refine (live_any w.heap.size g _ at_ _ X7.out false L3.out).mono ?_)
      rintro e w8 ⟨rfl, m, hw⟩
      have HB8 := Aside0.mk (show Below w.heap.size w w8 by rw [hw]; exact pw_below_drewN HB7.out m)
      have X8 := Aside0.mk (show IsBox w.heap.size w8 g _ by rw [hw]; exact X7.out.drewN m)
      clear hw
      go_wp2
      go_ret
      exact ⟨rfl, HB8.out⟩
    · have L1 := Aside0.mk (HLb true rfl)
      have M1 := Aside0.mk (HHb false rfl)
      have L2 := Aside0.mk (show (((Bx.new ticks).sel at_ seq l).matched false).live now = true from HLb true rfl)
      clear HLb HHb
      go_wp2_with fail
      (with_reducible refine (live_any w.heap.size g _ now _ X3.out true L1.out).mono ?_)
      rintro e w4 ⟨rfl, m, hw⟩
      have HB4 := Aside0.mk (show Below w.heap.size w w4 by rw [hw]; exact pw_below_drewN HB3.out m)
      have X4 := Aside0.mk (show IsBox w.heap.size w4 g _ by rw [hw]; exact X3.out.drewN m)
      clear hw
      go_wp2_with fail
      (with_reducible refine (first_any _).mono ?_)
      rintro e w5 ⟨rfl, hb⟩
      have HB5 := Aside0.mk (below_two HB4.out hb)
      have X5 := Aside0.mk (X4.out.below hb)
      clear hb
      go_wp2_with fail
      (with_reducible refine (match_any w.heap.size g _ now next _ _ _ l _ X5.out (HRw.out.below HB5.out) HX.out false M1.out).mono ?_)
      rintro e w6 ⟨rfl, hx, hc⟩
      have X6 := Aside0.mk hx
      have HB6 := Aside0.mk (below_chg HB5.out hc hgw)
      clear hx hc
      go_wp2_with fail
      (with_reducible refine (live_any w.heap.size g _ now _ X6.out true L2.out).mono ?_)
      rintro e w7 ⟨rfl, m, hw⟩
      have HB7 := Aside0.mk (show Below w.heap.size w w7 by rw [hw]; exact pw_below_drewN HB6.out m)
      have X7 := Aside0.mk (show IsBox w.heap.size w7 g _ by rw [hw]; exact X6.out.drewN m)
      clear hw
      go_wp2
      go_ret
      exact ⟨rfl, HB7.out⟩
  · go_enter Try.func4, Try.ntmps4
    go_wp2_with fail
    (with_reducible refine (first_any _).mono ?_)
    rintro e w1 ⟨rfl, hb⟩
    have HB1 := Aside0.mk hb
    clear hb
    go_wp2_with fail
    (with_reducible refine (new_any w.heap.size ticks _ HB1.out.size).mono ?_)
    rintro e w2 ⟨g, rfl, hx, hg, hb⟩
    have X2 := Aside0.mk hx
    have hgw : w.heap.size ≤ g := Nat.le_trans HB1.out.size hg
    have HB2 := Aside0.mk (below_two HB1.out hb)
    clear hx hb hg
    go_wp2_with fail
    all_goals
      refine (first_any _).mono ?_
      rintro e w3 ⟨rfl, hb⟩
      have HB3 := Aside0.mk (below_two HB2.out hb)
      clear hb
      go_wp2
      go_ret
      exact ⟨rfl, HB3.out⟩

set_option maxHeartbeats 4000000 in
set_option maxRecDepth 100000 in
theorem sboLast_walk (ticks now seq : Int) (A C : Option Addr) (n c m d : Nat) (l k : List Int) (void : Bool) (w : World) (HR : ReadsInt w .u8 A n l) (hl : Bytes l) (HS : ReadsInt w .u8 C m k) (hk : Bytes k) (ht : ticks ≤ 9223372036854775807) :
    Calls Try.prog 6 #[.int .i64 ticks, .int .i64 now, .int .i64 seq, .slice A n c, .slice C m d, .bool void] w fun e w' => e = .returned (.bool true) ∧ Below w.heap.size w w' := by
  have HRw := Aside0.mk HR
  have HSw := Aside0.mk HS
  have HX := Aside0.mk hl
  have HY := Aside0.mk hk
  have hn := HR.2.1
  have hm := HS.2.1
  have HKL := Aside0.mk HS.1
  clear HR hl HS hk
  by_cases hgo : n ≤ 6000 ∧ m ≤ 6000 ∧ 0 ≤ now ∧ now ≤ 1099511627776 ∧ 0 ≤ seq ∧ seq ≤ 15
  · obtain ⟨g1, g2, g3, g4, g5, g6⟩ := hgo
    have hA := live_plain (x := (Bx.new ticks).sel now seq l) (seq := seq) (l := k) g3 g4 g3 g4 (new_ticks ticks) (new_ticks_le ticks ht)
    have hA1 : (((Bx.new ticks).sel now seq l).sel now seq k).live now = true := by rw [hA]; have : 1 ≤ ((Bx.new ticks).sel now seq l).ticks := new_ticks ticks; simp; omega
    have HA1 := Aside0.mk hA1
    have hM : ∀ p : List Int, (((Bx.new ticks).sel now seq l).sel now seq k).hit now (seq + 1) p = decide (p = k) := fun p => by
      have e0 : (seq + 1) % 16 = (seq % 16 + 1) % 16 := by omega
      show ((((Bx.new ticks).sel now seq l).sel now seq k).live now && (decide ((seq + 1) % 16 = (seq % 16 + 1) % 16) && decide (p = k))) = _
      rw [hA1, e0]; simp
    have HM := Aside0.mk hM
    clear hA hA1 hM
    go_enter Try.func6, Try.ntmps6
    go_wp2_with fail
    (with_reducible refine (first_any _).mono ?_)
    rintro e w1 ⟨rfl, hb⟩
    have HB1 := Aside0.mk hb
    clear hb
    go_wp2_with fail
    (with_reducible refine (new_any w.heap.size ticks _ HB1.out.size).mono ?_)
    rintro e w2 ⟨g, rfl, hx, hg, hb⟩
    have X2 := Aside0.mk hx
    have hgw : w.heap.size ≤ g := Nat.le_trans HB1.out.size hg
    have HB2 := Aside0.mk (below_two HB1.out hb)
    clear hx hb hg
    go_wp2_with fail
    (with_reducible refine (select_any w.heap.size g _ now seq _ _ _ l _ X2.out (HRw.out.below HB2.out) HX.out (by omega) HB2.out.size).mono ?_)
    rintro e w3 ⟨rfl, hx, hc⟩
    have X3 := Aside0.mk hx
    have HB3 := Aside0.mk (below_chg HB2.out hc hgw)
    clear hx hc
    go_wp2_with fail
    (with_reducible refine (select_any w.heap.size g _ now seq _ _ _ k _ X3.out (HSw.out.below HB3.out) HY.out (by omega) HB3.out.size).mono ?_)
    rintro e w4 ⟨rfl, hx, hc⟩
    have X4 := Aside0.mk hx
    have HB4 := Aside0.mk (below_chg HB3.out hc hgw)
    clear hx hc
    cases void
    · have hsz5 : (((Bx.new ticks).sel now seq l).sel now seq k).b.length ≤ 140737488355328 := by show k.length ≤ 140737488355328; rw [HKL.out]; omega
      go_wp2_with fail
      (with_reducible refine (copy_any w.heap.size g _ _ X4.out HB4.out.size hsz5).mono ?_)
      rintro e w5 ⟨q, rfl, hx, hq, hb⟩
      have HB5 := Aside0.mk (below_two HB4.out hb)
      have X5 := Aside0.mk (X4.out.below hb)
      have Y5 := Aside0.mk hx
      have hqg : q ≠ g := by have := X4.out.lt; omega
      clear hx hb hq
      obtain ⟨s, hs⟩ : ∃ s, decide (l = k) = s := ⟨_, rfl⟩
      have HM1 := Aside0.mk ((HM.out l).trans hs)
      have HM2 := Aside0.mk ((HM.out k).trans (decide_eq_true rfl))
      have HS1 := Aside0.mk hs
      clear hs
      go_wp2_with fail
      (with_reducible refine (bytes_any _ _ _ _ _ _ l k _ (HRw.out.below HB5.out) (HSw.out.below HB5.out) HX.out HY.out).mono ?_)
      rintro e w' ⟨rfl, rfl⟩
      rw [HS1.out]
      cases s
      · have L1 := Aside0.mk (show ((((Bx.new ticks).sel now seq l).sel now seq k).matched false).live now = !false from HA1.out)
        have L2 := Aside0.mk (show ((((Bx.new ticks).sel now seq l).sel now seq k).live now) = true from HA1.out)
        go_wp2_with fail
        (with_reducible refine (match_any w.heap.size g _ now (seq + 1) _ _ _ l _ X5.out (HRw.out.below HB5.out) HX.out false HM1.out).mono ?_)
        rintro e w6 ⟨rfl, hx, hc⟩
        have X6 := Aside0.mk hx
        have Y6 := Aside0.mk (Y5.out.other X5.out hc hqg)
        have HB6 := Aside0.mk (below_chg HB5.out hc hgw)
        clear hx hc
        go_wp2_with fail
        (with_reducible refine (first_any _).mono ?_)
        rintro e w7 ⟨rfl, hb⟩
        have HB7 := Aside0.mk (below_two HB6.out hb)
        have X7 := Aside0.mk (X6.out.below hb)
        have Y7 := Aside0.mk (Y6.out.below hb)
        clear hb
        go_wp2_with fail
        (with_reducible refine (live_any w.heap.size q _ now _ Y7.out true L2.out).mono ?_)
        rintro e w8 ⟨rfl, m8, hw⟩
        have HB8 := Aside0.mk (show Below w.heap.size w w8 by rw [hw]; exact pw_below_drewN HB7.out m8)
        have X8 := Aside0.mk (show IsBox w.heap.size w8 g _ by rw [hw]; exact X7.out.drewN m8)
        have Y8 := Aside0.mk (show IsBox w.heap.size w8 q _ by rw [hw]; exact Y7.out.drewN m8)
        clear hw
        go_wp2_with fail
        (with_reducible refine (match_any w.heap.size q _ now (seq + 1) _ _ _ k _ Y8.out (HSw.out.below HB8.out) HY.out true HM2.out).mono ?_)
        rintro e w9 ⟨rfl, hx, hc⟩
        have X9 := Aside0.mk (X8.out.other Y8.out hc (Ne.symm hqg))
        have HB9 := Aside0.mk (below_chg HB8.out hc Y8.out.ge)
        clear hx hc
        go_wp2_with fail
        (with_reducible refine (live_any w.heap.size g _ now _ X9.out (!false) L1.out).mono ?_)
        rintro e w10 ⟨rfl, m10, hw⟩
        have HB10 := Aside0.mk (show Below w.heap.size w w10 by rw [hw]; exact pw_below_drewN HB9.out m10)
        clear hw
        go_wp2
        go_ret
        exact ⟨rfl, HB10.out⟩
      · have L1 := Aside0.mk (show ((((Bx.new ticks).sel now seq l).sel now seq k).matched true).live now = !true from rfl)
        have L2 := Aside0.mk (show ((((Bx.new ticks).sel now seq l).sel now seq k).live now) = true from HA1.out)
        go_wp2_with fail
        (with_reducible refine (match_any w.heap.size g _ now (seq + 1) _ _ _ l _ X5.out (HRw.out.below HB5.out) HX.out true HM1.out).mono ?_)
        rintro e w6 ⟨rfl, hx, hc⟩
        have X6 := Aside0.mk hx
        have Y6 := Aside0.mk (Y5.out.other X5.out hc hqg)
        have HB6 := Aside0.mk (below_chg HB5.out hc hgw)
        clear hx hc
        go_wp2_with fail
        (with_reducible refine (first_any _).mono ?_)
        rintro e w7 ⟨rfl, hb⟩
        have HB7 := Aside0.mk (below_two HB6.out hb)
        have X7 := Aside0.mk (X6.out.below hb)
        have Y7 := Aside0.mk (Y6.out.below hb)
        clear hb
        go_wp2_with fail
        (with_reducible refine (live_any w.heap.size q _ now _ Y7.out true L2.out).mono ?_)
        rintro e w8 ⟨rfl, m8, hw⟩
        have HB8 := Aside0.mk (show Below w.heap.size w w8 by rw [hw]; exact pw_below_drewN HB7.out m8)
        have X8 := Aside0.mk (show IsBox w.heap.size w8 g _ by rw [hw]; exact X7.out.drewN m8)
        have Y8 := Aside0.mk (show IsBox w.heap.size w8 q _ by rw [hw]; exact Y7.out.drewN m8)
        clear hw
        go_wp2_with fail
        (with_reducible refine (match_any w.heap.size q _ now (seq + 1) _ _ _ k _ Y8.out (HSw.out.below HB8.out) HY.out true HM2.out).mono ?_)
        rintro e w9 ⟨rfl, hx, hc⟩
        have X9 := Aside0.mk (X8.out.other Y8.out hc (Ne.symm hqg))
        have HB9 := Aside0.mk (below_chg HB8.out hc Y8.out.ge)
        clear hx hc
        go_wp2_with fail
        (with_reducible refine (live_any w.heap.size g _ now _ X9.out (!true) L1.out).mono ?_)
        rintro e w10 ⟨rfl, m10, hw⟩
        have HB10 := Aside0.mk (show Below w.heap.size w w10 by rw [hw]; exact pw_below_drewN HB9.out m10)
        clear hw
        go_wp2
        go_ret
        exact ⟨rfl, HB10.out⟩
    · go_wp2_with fail
      (with_reducible refine (void_any w.heap.size g _ _ X4.out).mono ?_)
      rintro e w5 ⟨rfl, hx, hc⟩
      have X5 := Aside0.mk hx
      have HB5 := Aside0.mk (below_chg HB4.out hc hgw)
      have L1 := Aside0.mk (show (((Bx.new ticks).sel now seq l).sel now seq k).void.live now = false from rfl)
      have M1 := Aside0.mk (show (((Bx.new ticks).sel now seq l).sel now seq k).void.hit now (seq + 1) k = false from rfl)
      clear hx hc
      go_wp2_with fail
      (with_reducible refine (first_any _).mono ?_)
      rintro e w6 ⟨rfl, hb⟩
      have HB6 := Aside0.mk (below_two HB5.out hb)
      have X6 := Aside0.mk (X5.out.below hb)
      clear hb
      go_wp2_with fail
      (with_reducible refine (live_any w.heap.size g _ now _ X6.out false L1.out).mono ?_)
      rintro e w7 ⟨rfl, m, hw⟩
      have HB7 := Aside0.mk (show Below w.heap.size w w7 by rw [hw]; exact pw_below_drewN HB6.out m)
      have X7 := Aside0.mk (show IsBox w.heap.size w7 g _ by rw [hw]; exact X6.out.drewN m)
      clear hw
      go_wp2_with fail
      (with_reducible refine (match_any w.heap.size g _ now (seq + 1) _ _ _ k _ X7.out (HSw.out.below HB7.out) HY.out false M1.out).mono ?_)
      rintro e w8 ⟨rfl, hx, hc⟩
      have X8 := Aside0.mk hx
      have HB8 := Aside0.mk (below_chg HB7.out hc hgw)
      clear hx hc
      go_wp2
      go_ret
      exact ⟨rfl, HB8.out⟩
  · go_enter Try.func6, Try.ntmps6
    go_wp2_with fail
    (with_reducible refine (first_any _).mono ?_)
    rintro e w1 ⟨rfl, hb⟩
    have HB1 := Aside0.mk hb
    clear hb
    go_wp2_with fail
    (with_reducible refine (new_any w.heap.size ticks _ HB1.out.size).mono ?_)
    rintro e w2 ⟨g, rfl, hx, hg, hb⟩
    have X2 := Aside0.mk hx
    have hgw : w.heap.size ≤ g := Nat.le_trans HB1.out.size hg
    have HB2 := Aside0.mk (below_two HB1.out hb)
    clear hx hb hg
    go_wp2_with fail
    all_goals
      refine (first_any _).mono ?_
      rintro e w3 ⟨rfl, hb⟩
      have HB3 := Aside0.mk (below_two HB2.out hb)
      clear hb
      go_wp2
      go_ret
      exact ⟨rfl, HB3.out⟩
end Go.Proofs.Ytoieognhjebcpaa
