/- The secondary station: how its state turns, the law. Conditions: the arguments read as data. -/
import Derived.Test.YtpepgblmcjgbgaaStK
import Derived.Test.YtpepgblmcjgbgaaStH
namespace Go.Proofs.Ytpepgblmcjgbgaa
open Go.RowKit Go.Proofs.YtpepgblmcjgbgaaW.PrintWords
set_option linter.unusedVariables false
/-- What the law asks of a frame, in its own words. -/
theorem tog_all (s s7 : St) (c d r : Int) (up fc now then_ : Bool) (h : s7 = if (oursB c d r && ((bits .and .i64 c 16 == 0) && (bits .and .i64 c 15 == 0))) = true then { s with ready := true, expect := true }
      else if ((oursB c d r && ((bits .and .i64 c 16 != 0) && ((bits .and .i64 c 15 == 2) || (bits .and .i64 c 15 == 3)))) && (s.ready && ((bits .and .i64 c 32 != 0) == s.expect))) = true then { s with expect := !s.expect } else s)
    (h1 : s.ready = up) (h2 : (s.ready && s.expect) = fc) (h3 : s7.ready = now) (h4 : (s7.ready && s7.expect) = then_) :
    (now = if d = 1 ∧ r = 2 ∧ bits .and .i64 c 192 = 192 ∧ bits .and .i64 c 16 = 0 ∧ bits .and .i64 c 15 = 0 then true else up)
    ∧ (then_ = if d = 1 ∧ r = 2 ∧ bits .and .i64 c 192 = 192 ∧ bits .and .i64 c 16 = 0 ∧ bits .and .i64 c 15 = 0 then true else
        if d = 1 ∧ r = 2 ∧ bits .and .i64 c 192 = 192 ∧ ¬ bits .and .i64 c 16 = 0 ∧ (bits .and .i64 c 15 = 2 ∨ bits .and .i64 c 15 = 3) ∧ up = true ∧ ((bits .and .i64 c 32 != 0) == fc) = true then !fc else fc)
    ∧ (now = false → then_ = false) := by
  obtain ⟨o, m, rd, ex⟩ := s
  subst h3 h4
  dsimp only at h1 h2
  subst h1 h2
  subst h
  unfold oursB
  generalize (bits .and .i64 c 32 != 0) = b
  generalize bits .and .i64 c 15 = x
  generalize bits .and .i64 c 16 = y
  generalize bits .and .i64 c 192 = z
  by_cases e1 : d = 1 <;> by_cases e2 : r = 2 <;> by_cases e3 : z = 192 <;> by_cases e4 : y = 0 <;> by_cases e5 : x = 0 <;> by_cases e6 : x = 2 <;> by_cases e7 : x = 3 <;> simp_all <;> cases rd <;> cases ex <;> cases b <;> simp_all
theorem res_not {d r c : Int} (h : ¬ (d = 1 ∧ r = 2 ∧ bits .and .i64 c 192 = 192 ∧ bits .and .i64 c 16 = 0 ∧ bits .and .i64 c 15 = 0)) :
    d = 1 → r = 2 → bits .and .i64 c 192 = 192 → bits .and .i64 c 16 = 0 → (bits .and .i64 c 15 == 0) = true → False :=
  fun h1 h2 h3 h4 h5 => h ⟨h1, h2, h3, h4, by simpa using h5⟩
theorem conf_not_t {d r c : Int} (h : ¬ (d = 1 ∧ r = 2 ∧ bits .and .i64 c 192 = 192 ∧ ¬ bits .and .i64 c 16 = 0 ∧ (bits .and .i64 c 15 = 2 ∨ bits .and .i64 c 15 = 3) ∧ true = true ∧ ((bits .and .i64 c 32 != 0) == true) = true)) :
    d = 1 → r = 2 → bits .and .i64 c 192 = 192 → ¬ bits .and .i64 c 16 = 0 → (bits .and .i64 c 15 = 2 ∨ bits .and .i64 c 15 = 3) → (bits .and .i64 c 16 != 0) = true ∧ (bits .and .i64 c 32 != 0) = true → False := by
  intro h1 h2 h3 h4 h5 h6
  have h7 := h6.2
  refine h ⟨h1, h2, h3, h4, h5, rfl, ?_⟩
  revert h7
  generalize (bits .and .i64 c 32 != 0) = b
  cases b <;> simp
theorem conf_not_f {d r c : Int} (h : ¬ (d = 1 ∧ r = 2 ∧ bits .and .i64 c 192 = 192 ∧ ¬ bits .and .i64 c 16 = 0 ∧ (bits .and .i64 c 15 = 2 ∨ bits .and .i64 c 15 = 3) ∧ true = true ∧ ((bits .and .i64 c 32 != 0) == false) = true)) :
    d = 1 → r = 2 → bits .and .i64 c 192 = 192 → ¬ bits .and .i64 c 16 = 0 → (bits .and .i64 c 15 = 2 ∨ bits .and .i64 c 15 = 3) → (bits .and .i64 c 16 != 0) = true ∧ (!bits .and .i64 c 32 != 0) = true → False := by
  intro h1 h2 h3 h4 h5 h6
  have h7 := h6.2
  refine h ⟨h1, h2, h3, h4, h5, rfl, ?_⟩
  revert h7
  generalize (bits .and .i64 c 32 != 0) = b
  cases b <;> simp
set_option maxHeartbeats 6000000 in
set_option maxRecDepth 100000 in
theorem toggles_law (A : Option Addr) (n c : Nat) (l : List Fr) (w : World) (h : kdK_link_Frame.C w A n l) :
    Calls Try.prog 5 #[.slice A n c] w (fun e w' => e = .returned (.bool true) ∧ Below w.heap.size w w') := by
  have hn : n ≤ 9223372036854775807 := h.2.1
  have HL := Aside0.mk (show l.length = n from h.1)
  have H := Aside0.mk h
  clear h
  go_enter Try.func5, Try.ntmps5
  go_wp2_with fail
  (with_reducible refine (first_any _).mono ?_)
  rintro _ w1 ⟨rfl, hb1⟩
  have hle1 := hb1.size
  go_wp2_with fail
  (with_reducible refine (new_any w.heap.size 1 2 _ hle1).mono ?_)
  rintro _ w2 ⟨g, rfl, hs2, hg2, hb2⟩
  have HS2 := Aside0.mk hs2
  have HB2 := Aside0.mk (below_two hb1 hb2)
  have lg2 : w.heap.size ≤ g := Nat.le_trans hle1 hg2
  have l2 := hs2.lt
  clear hs2 hb1 hb2 hle1
  go_wp2_with fail
  (with_reducible refine (few_any A n c l _ (Kd.C_below H.out HB2.out)).mono ?_)
  rintro _ w3 ⟨rfl, rfl⟩
  cases hf : fewB l
  · go_wp2_with fail
    (with_reducible refine (first_any _).mono ?_)
    rintro _ w4 ⟨rfl, hb4⟩
    have HB4 := Aside0.mk (below_two HB2.out hb4)
    clear hb4
    go_wp2
    go_ret
    exact ⟨rfl, HB4.out⟩
  have HF := Aside0.mk (few_small hf)
  go_wp2
  go_loopw [4] (fun i wr => ∃ (j : Nat) (s : St), j ≤ n ∧ i = .int .i64 j ∧ Aside0 (IsSt w.heap.size wr g s) ∧ Aside0 (s.own = 1 ∧ s.master = 2) ∧ Aside0 (Below w.heap.size w wr)) (fun i _ => n - (intOf i).toNat)
  case atStart => exact ⟨0, _, Nat.zero_le _, rfl, HS2, ⟨rfl, rfl⟩, HB2⟩
  case round =>
    clear HS2
    obtain ⟨j, s, hj, rfl, HS, HM, HB⟩ := hrel
    by_cases hlt : j < n
    · obtain ⟨ad, A4, c4, rfl, k0, k1, k2, k3, l4, g4⟩ := K_link_Frame_at H.out j (by omega) (by omega)
      rw [Int.toNat_natCast] at k0 k1 k2 k3 l4 g4
      have HBr := Aside0.mk HB.out
      replace k0 := fun m : Nat => pw_cell_below (pw_below_drewN HB.out m) k0
      replace k1 := fun m : Nat => pw_cell_below (pw_below_drewN HB.out m) k1
      replace k2 := fun m : Nat => pw_cell_below (pw_below_drewN HB.out m) k2
      replace k3 := fun m : Nat => pw_cell_below (pw_below_drewN HB.out m) k3
      have hmem := getD_mem l j (by rw [HL.out]; exact hlt) zK_link_Frame
      obtain ⟨o, ho⟩ : ∃ o, l.getD j zK_link_Frame = o := ⟨_, rfl⟩
      rw [ho] at k0 k1 k2 k3 l4 g4 hmem
      have hsm := HF.out.2 o hmem
      have HRw := Aside0.mk (reads_int g4)
      clear ho hmem g4
      obtain ⟨L, hLL⟩ : ∃ L, o.Data.length = L := ⟨_, rfl⟩
      rw [hLL] at k3 l4 hsm HRw
      obtain ⟨up, hup⟩ : ∃ b, s.ready = b := ⟨_, rfl⟩
      obtain ⟨fc, hfc⟩ : ∃ b, (s.ready && s.expect) = b := ⟨_, rfl⟩
      go_wp2_with fail
      (with_reducible refine (state_as _ g s up fc _ HS.out hup hfc).mono ?_)
      rintro _ w6 ⟨rfl, m6, rfl⟩
      have HS6 := Aside0.mk (show IsSt w.heap.size (wr.drewN m6) g s from HS.out)
      have hz6 : ((wr.drewN m6).alloc (.cells #[.int .i64 0, .int .i64 0, .int .i64 0, .slice none 0 0] 29)).heap[wr.heap.size]? = some (.cells #[.int .i64 0, .int .i64 0, .int .i64 0, .slice none 0 0] 29 (0, 0)) := heap_alloc_new (wr.drewN m6) _
      have z0 := blk_cell hz6 0
      have z1 := blk_cell hz6 1
      have z2 := blk_cell hz6 2
      have z3 := blk_cell hz6 3
      have t0 := blk_frozen hz6 0
      have t1 := blk_frozen hz6 1
      have t2 := blk_frozen hz6 2
      have t3 := blk_frozen hz6 3
      simp only [List.getElem?_toArray, List.getElem?_cons_zero, List.getElem?_cons_succ] at z0 z1 z2 z3
      have HZ6 := Aside0.mk hz6
      clear hz6
      go_wp2_with fail
      generalize hW : ((((((wr.drewN m6).alloc _).setCell _ _).setCell _ _).setCell _ _).setCell _ _) = W
      have hfW : W.heap[wr.heap.size]? = some (.cells #[.int .i64 o.Ctl, .int .i64 o.Dest, .int .i64 o.Src, .slice A4 L c4] 29 (0, 0)) := by rw [← hW]; exact set_four HZ6.out _ _ _ _
      have hcW : Chg g wr W := by rw [← hW]; exact (((Chg.refl g wr).drewN m6).alloc _).four (Nat.le_refl _) _ _ _ _
      have hsW : IsSt w.heap.size W g s := by rw [← hW]; exact ⟨keep_four (blk_alloc HS6.out.1 _) (by have := HS.out.lt; omega) _ _ _ _, HS.out.2⟩
      have hro : ∀ w5, Chg g W w5 → ReadsInt w5 .u8 A4 L o.Data := fun w5 hc => HRw.out.below (HB.out.trans ((hcW.trans hc).below lg2 HB.out.size))
      go_wp2_with fail
      (with_reducible refine (take_any w.heap.size g s o.Ctl o.Dest o.Src A4 L c4 o.Data _ hsW hro (by omega)).mono ?_)
      rintro _ w7 ⟨v7, rfl, _, hs7, hc7⟩
      have hM7 := tk_same s o.Ctl o.Dest o.Src
      have hst := tk_tog s o.Ctl o.Dest o.Src HM.out.1 HM.out.2
      generalize (tk s o.Ctl o.Dest o.Src).st = s7 at hs7 hM7 hst
      have hB7 : Below w.heap.size w w7 := HB.out.trans ((hcW.trans hc7).below lg2 HB.out.size)
      have hf7 := (hc7.block wr.heap.size (blk_lt hfW) (by have := HS.out.lt; omega)).trans hfW
      have f0 := blk_cell hf7 0
      have f1 := blk_cell hf7 1
      have f2 := blk_cell hf7 2
      have f3 := blk_cell hf7 3
      simp only [List.getElem?_toArray, List.getElem?_cons_zero, List.getElem?_cons_succ] at f0 f1 f2 f3
      replace f0 := fun m : Nat => (show (w7.drewN m).cell? _ = _ from f0)
      replace f1 := fun m : Nat => (show (w7.drewN m).cell? _ = _ from f1)
      replace f2 := fun m : Nat => (show (w7.drewN m).cell? _ = _ from f2)
      replace f3 := fun m : Nat => (show (w7.drewN m).cell? _ = _ from f3)
      obtain ⟨now, hnow⟩ : ∃ b, s7.ready = b := ⟨_, rfl⟩
      obtain ⟨then_, hthen⟩ : ∃ b, (s7.ready && s7.expect) = b := ⟨_, rfl⟩
      have HS7 := Aside0.mk hs7
      have HX := Aside0.mk (tog_all s s7 o.Ctl o.Dest o.Src up fc now then_ hst hup hfc hnow hthen)
      have HB7 := Aside0.mk hB7
      have HM7 := Aside0.mk (show s7.own = 1 ∧ s7.master = 2 from ⟨hM7.1.trans HM.out.1, hM7.2.trans HM.out.2⟩)
      clear hst hM7 hB7 hf7 hc7 hfW hcW hsW hro hs7 k0 k1 k2 k3 z0 z1 z2 z3 t0 t1 t2 t3
      have hs8 := HS7.out
      clear hup
      obtain ⟨x1, x2, x3⟩ := HX.out
      clear HX hfc
      by_cases hR : o.Dest = 1 ∧ o.Src = 2 ∧ bits .and .i64 o.Ctl 192 = 192 ∧ bits .and .i64 o.Ctl 16 = 0 ∧ bits .and .i64 o.Ctl 15 = 0
      · rw [if_pos hR] at x1 x2
        obtain ⟨e1, e2, e3, e4, e5⟩ := hR
        clear x3
        subst x1 x2
        go_wp2_with fail
        (with_reducible refine (state_as _ g s7 true true _ hs8 hnow hthen).mono ?_)
        rintro _ w8 ⟨rfl, m8, rfl⟩
        go_wp2
        go_round
        case rel => exact ⟨j + 1, s7, by omega, by go_num, HS7, HM7, ⟨pw_below_drewN HB7.out m8⟩⟩
        case measure => simp [intOf]; omega
      · rw [if_neg hR] at x1 x2
        by_cases hC : o.Dest = 1 ∧ o.Src = 2 ∧ bits .and .i64 o.Ctl 192 = 192 ∧ ¬ bits .and .i64 o.Ctl 16 = 0 ∧ (bits .and .i64 o.Ctl 15 = 2 ∨ bits .and .i64 o.Ctl 15 = 3) ∧ up = true ∧ ((bits .and .i64 o.Ctl 32 != 0) == fc) = true
        · rw [if_pos hC] at x2
          obtain ⟨e1, e2, e3, e4, e5, e6, e7⟩ := hC
          clear x3 hR
          subst x1 x2 e6
          cases fc <;> rcases e5 with e5 | e5
          all_goals
            go_wp2_with fail
            (with_reducible refine (state_as _ g s7 _ _ _ hs8 hnow hthen).mono ?_)
            rintro _ w8 ⟨rfl, m8, rfl⟩
            go_wp2
            go_round
            case rel => exact ⟨j + 1, s7, by omega, by go_num, HS7, HM7, ⟨pw_below_drewN HB7.out m8⟩⟩
            case measure => simp [intOf]; omega
        · rw [if_neg hC] at x2
          subst x1 x2
          cases now <;> cases then_
          case false.true => exact absurd (x3 rfl) (by decide)
          case false.false =>
            have HR := Aside0.mk (res_not hR)
            clear x3 hR hC
            go_wp2_with fail
            (with_reducible refine (state_as _ g s7 _ _ _ hs8 hnow hthen).mono ?_)
            rintro _ w8 ⟨rfl, m8, rfl⟩
            go_wp2
            all_goals first
              | with_reducible exact (HR.out (by with_reducible assumption) (by with_reducible assumption) (by with_reducible assumption) (by with_reducible assumption) (by with_reducible assumption)).elim
              | skip
            all_goals
              go_round
              case rel => exact ⟨j + 1, s7, by omega, by go_num, HS7, HM7, ⟨pw_below_drewN HB7.out m8⟩⟩
              case measure => simp [intOf]; omega
          all_goals
            have HR := Aside0.mk (res_not hR)
            first | have HC := Aside0.mk (conf_not_t hC) | have HC := Aside0.mk (conf_not_f hC)
            clear x3 hR hC
            go_wp2_with fail
            (with_reducible refine (state_as _ g s7 _ _ _ hs8 hnow hthen).mono ?_)
            rintro _ w8 ⟨rfl, m8, rfl⟩
            go_wp2
          all_goals first
            | with_reducible exact (HR.out (by with_reducible assumption) (by with_reducible assumption) (by with_reducible assumption) (by with_reducible assumption) (by with_reducible assumption)).elim
            | with_reducible exact (HC.out (by with_reducible assumption) (by with_reducible assumption) (by with_reducible assumption) (by with_reducible assumption) (.inl (by with_reducible assumption)) (by with_reducible assumption)).elim
            | with_reducible exact (HC.out (by with_reducible assumption) (by with_reducible assumption) (by with_reducible assumption) (by with_reducible assumption) (.inr (by with_reducible assumption)) (by with_reducible assumption)).elim
            | skip
          all_goals
            go_round
            case rel => exact ⟨j + 1, s7, by omega, by go_num, HS7, HM7, ⟨pw_below_drewN HB7.out m8⟩⟩
            case measure => simp [intOf]; omega
    · obtain rfl : j = n := by omega
      go_wp2_with fail
      (with_reducible refine (first_any _).mono ?_)
      rintro _ w7 ⟨rfl, hb7⟩
      have HB7 := Aside0.mk (below_two HB.out hb7)
      clear hb7
      go_wp2
      go_ret
      exact ⟨rfl, HB7.out⟩
end Go.Proofs.Ytpepgblmcjgbgaa
