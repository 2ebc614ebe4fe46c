/- Select before operate: the law that a selection matches once, in time. Conditions: the arguments read as data. -/
import Derived.Test.YtoieognhjebcpaaSboC
namespace Go.Proofs.Ytoieognhjebcpaa
open Go.RowKit SboMath Go.Proofs.YtoieognhjebcpaaW.PrintWords
set_option linter.unusedVariables false

theorem below_draws {w w1 : World} (h : Below w.heap.size w w1) (m : Nat) : Below w.heap.size w (w1.drewN m) := pw_below_drewN h m

set_option maxHeartbeats 4000000 in
set_option maxRecDepth 100000 in
theorem sboOnce_walk (ticks at_ seq after next : Int) (A C : Option Addr) (n c m d : Nat) (l k : List Int) (w : World) (HR : ReadsInt w .u8 A n l) (hl : Bytes l) (HS : ReadsInt w .u8 C m k) (hk : Bytes k) (ht : ticks ≤ 9223372036854775807) :
    Calls Try.prog 3 #[.int .i64 ticks, .int .i64 at_, .int .i64 seq, .slice A n c, .slice C m d, .int .i64 after, .int .i64 next] w fun e w' => e = .returned (.bool true) ∧ Below w.heap.size w w' := by
  have h15 := and15
  have HRw := Aside0.mk HR
  have HSw := Aside0.mk HS
  have HX := Aside0.mk hl
  have HY := Aside0.mk hk
  have hn := HR.2.1
  have hm := HS.2.1
  clear HR HS hl hk
  by_cases hgo : n ≤ 6000 ∧ m ≤ 6000 ∧ 0 ≤ at_ ∧ at_ ≤ 1099511627776 ∧ 0 ≤ after ∧ after ≤ 1099511627776
  · obtain ⟨g1, g2, g3, g4, g5, g6⟩ := hgo
    have HH := Aside0.mk (fun l m => hit_plain (x := Bx.new ticks) (seq := seq) (next := next) (l := l) (m := m) g3 g4 g5 g6 (new_ticks ticks) (new_ticks_le ticks ht))
    have HT := Aside0.mk (show (Bx.new ticks).ticks = (if ticks < 1 then 1 else ticks) from rfl)
    rw [HT.out] at HH
    obtain ⟨T, hT⟩ : ∃ T, (if ticks < 1 then 1 else ticks) = T := ⟨_, rfl⟩
    rw [hT] at HH
    go_enter Try.func3, Try.ntmps3
    go_wp2_with fail
    (with_reducible refine (first_any _).mono ?_)
    rintro e w1 ⟨rfl, hb⟩
    have HB1 := Aside0.mk hb
    clear hb
    go_wp2_with fail
    (with_reducible refine (new_any w.heap.size ticks _ HB1.out.size).mono ?_)
    rintro e w2 ⟨g, rfl, hx, hg, hb⟩
    have X2 := Aside0.mk hx
    have hgw : w.heap.size ≤ g := Nat.le_trans HB1.out.size hg
    have HB2 := Aside0.mk (below_two HB1.out hb)
    clear hx hb hg
    go_wp2_with fail
    (with_reducible refine (select_any w.heap.size g _ at_ seq _ _ _ l _ X2.out (HRw.out.below HB2.out) HX.out (by omega) HB2.out.size).mono ?_)
    rintro e w3 ⟨rfl, hx, hc⟩
    have X3 := Aside0.mk hx
    have HB3 := Aside0.mk (below_chg HB2.out hc hgw)
    clear hx hc X2
    obtain ⟨b1, e1⟩ : ∃ b, decide (after < T) = b := ⟨_, rfl⟩
    obtain ⟨b2, e2⟩ : ∃ b, (next % 16 == (seq + 1) % 16) = b := ⟨_, rfl⟩
    obtain ⟨b3, e3⟩ : ∃ b, decide (k = l) = b := ⟨_, rfl⟩
    have E3 := Aside0.mk (show decide (l = k) = b3 by rw [← e3]; exact decide_eq_decide.2 ⟨Eq.symm, Eq.symm⟩)
    have hh := HH.out l k
    rw [e1, e2, e3] at hh
    have E := Aside0.mk hh
    clear e3 hh HH
    by_cases hbb : b1 = true ∧ b2 = true
    · obtain ⟨rfl, rfl⟩ := hbb
      go_wp2_with fail
      (with_reducible refine (bytes_any _ _ _ _ _ _ l k _ (HRw.out.below HB3.out) (HSw.out.below HB3.out) HX.out HY.out).mono ?_)
      rintro e w' ⟨rfl, rfl⟩
      rw [E3.out]
      cases b3
      · have E1 : ((Bx.new ticks).sel at_ seq l).hit (at_ + after) next k = false := E.out
        have E2 : (((Bx.new ticks).sel at_ seq l).matched false).hit (at_ + after) next k = false := E.out
        have E := Aside0.mk E1
        have E' := Aside0.mk E2
        clear E1 E2
        go_wp2_with fail
        (with_reducible refine (match_any w.heap.size g _ (at_ + after) next _ _ _ k _ X3.out (HSw.out.below HB3.out) HY.out false E.out).mono ?_)
        rintro e w4 ⟨rfl, hx, hc⟩
        have X4 := Aside0.mk hx
        have HB4 := Aside0.mk (below_chg HB3.out hc hgw)
        clear hx hc
        go_wp2_with fail
        (with_reducible refine (match_any w.heap.size g _ (at_ + after) next _ _ _ k _ X4.out (HSw.out.below HB4.out) HY.out false E'.out).mono ?_)
        rintro e w5 ⟨rfl, hx, hc⟩
        have HB5 := Aside0.mk (below_chg HB4.out hc hgw)
        clear hx hc
        go_wp2_with fail
        (with_reducible refine (first_any _).mono ?_)
        rintro e w6 ⟨rfl, hb⟩
        have HB6 := Aside0.mk (below_two HB5.out hb)
        clear hb
        go_wp2
        go_ret
        exact ⟨rfl, HB6.out⟩
      · have E1 : ((Bx.new ticks).sel at_ seq l).hit (at_ + after) next k = true := E.out
        have E2 : (((Bx.new ticks).sel at_ seq l).matched true).hit (at_ + after) next k = false := rfl
        have E3 : ((((Bx.new ticks).sel at_ seq l).matched true).matched false).live at_ = false := rfl
        have E := Aside0.mk E1
        have E' := Aside0.mk E2
        have E'' := Aside0.mk E3
        clear E1 E2 E3
        go_wp2_with fail
        (with_reducible refine (match_any w.heap.size g _ (at_ + after) next _ _ _ k _ X3.out (HSw.out.below HB3.out) HY.out true E.out).mono ?_)
        rintro e w4 ⟨rfl, hx, hc⟩
        have X4 := Aside0.mk hx
        have HB4 := Aside0.mk (below_chg HB3.out hc hgw)
        clear hx hc
        go_wp2_with fail
        (with_reducible refine (match_any w.heap.size g _ (at_ + after) next _ _ _ k _ X4.out (HSw.out.below HB4.out) HY.out false E'.out).mono ?_)
        rintro e w5 ⟨rfl, hx, hc⟩
        have X5 := Aside0.mk hx
        have HB5 := Aside0.mk (below_chg HB4.out hc hgw)
        clear hx hc
        go_wp2_with fail
        (with_reducible refine (first_any _).mono ?_)
        rintro e w6 ⟨rfl, hb⟩
        have X6 := Aside0.mk (X5.out.below hb)
        have HB6 := Aside0.mk (below_two HB5.out hb)
        clear hb
        go_wp2_with fail
        (with_reducible refine (live_any w.heap.size g _ at_ _ X6.out false E''.out).mono ?_)
        rintro e w' ⟨rfl, m1, rfl⟩
        go_wp2
        go_ret
        exact ⟨rfl, pw_below_drewN HB6.out _⟩
    · have hw : (b1 && (b2 && b3)) = false := by cases b1 <;> cases b2 <;> simp_all
      have E' := E.out
      rw [hw] at E'
      have EF := Aside0.mk E'
      have EG := Aside0.mk (show (((Bx.new ticks).sel at_ seq l).matched false).hit (at_ + after) next k = false from E')
      clear E E' hw
      cases b1
      · go_wp2_with fail
        (with_reducible refine (match_any w.heap.size g _ (at_ + after) next _ _ _ k _ X3.out (HSw.out.below HB3.out) HY.out false EF.out).mono ?_)
        rintro e w4 ⟨rfl, hx, hc⟩
        have X4 := Aside0.mk hx
        have HB4 := Aside0.mk (below_chg HB3.out hc hgw)
        clear hx hc
        go_wp2_with fail
        (with_reducible refine (match_any w.heap.size g _ (at_ + after) next _ _ _ k _ X4.out (HSw.out.below HB4.out) HY.out false EG.out).mono ?_)
        rintro e w5 ⟨rfl, hx, hc⟩
        have HB5 := Aside0.mk (below_chg HB4.out hc hgw)
        clear hx hc
        go_wp2_with fail
        (with_reducible refine (first_any _).mono ?_)
        rintro e w6 ⟨rfl, hb⟩
        have HB6 := Aside0.mk (below_two HB5.out hb)
        clear hb
        go_wp2
        go_ret
        exact ⟨rfl, HB6.out⟩
      · cases b2
        · go_wp2_with fail
          (with_reducible refine (match_any w.heap.size g _ (at_ + after) next _ _ _ k _ X3.out (HSw.out.below HB3.out) HY.out false EF.out).mono ?_)
          rintro e w4 ⟨rfl, hx, hc⟩
          have X4 := Aside0.mk hx
          have HB4 := Aside0.mk (below_chg HB3.out hc hgw)
          clear hx hc
          go_wp2_with fail
          (with_reducible refine (match_any w.heap.size g _ (at_ + after) next _ _ _ k _ X4.out (HSw.out.below HB4.out) HY.out false EG.out).mono ?_)
          rintro e w5 ⟨rfl, hx, hc⟩
          have HB5 := Aside0.mk (below_chg HB4.out hc hgw)
          clear hx hc
          go_wp2_with fail
          (with_reducible refine (first_any _).mono ?_)
          rintro e w6 ⟨rfl, hb⟩
          have HB6 := Aside0.mk (below_two HB5.out hb)
          clear hb
          go_wp2
          go_ret
          exact ⟨rfl, HB6.out⟩
        · exact absurd ⟨rfl, rfl⟩ hbb
  · go_enter Try.func3, Try.ntmps3
    go_wp2_with fail
    (with_reducible refine (first_any _).mono ?_)
    rintro e w1 ⟨rfl, hb⟩
    have HB1 := Aside0.mk hb
    clear hb
    go_wp2_with fail
    (with_reducible refine (new_any w.heap.size ticks _ HB1.out.size).mono ?_)
    rintro e w2 ⟨g, rfl, hx, hg, hb⟩
    have HB2 := Aside0.mk (below_two HB1.out hb)
    clear hx hb hg
    go_wp2_with fail
    all_goals
      refine (first_any _).mono ?_
      rintro e w3 ⟨rfl, hb⟩
      have HB3 := Aside0.mk (below_two HB2.out hb)
      clear hb
      go_wp2
      go_ret
      exact ⟨rfl, HB3.out⟩
end Go.Proofs.Ytoieognhjebcpaa
