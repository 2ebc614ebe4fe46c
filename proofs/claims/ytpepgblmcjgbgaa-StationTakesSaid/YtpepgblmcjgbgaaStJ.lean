/- The secondary station: what it answers, the law. Conditions: the arguments read as data. -/
import Derived.Test.YtpepgblmcjgbgaaStI
import Derived.Test.YtpepgblmcjgbgaaStH
namespace Go.Proofs.Ytpepgblmcjgbgaa
open Go.RowKit Go.Proofs.YtpepgblmcjgbgaaW.PrintWords
set_option linter.unusedVariables false
theorem fr_none (s : St) : frameV s none = .agg #[.int .i64 0, .int .i64 0, .int .i64 0, .slice none 0 0] := rfl
theorem fr_some (s : St) (c : Int) (h : s.own = 1 ∧ s.master = 2) : frameV s (some c) = .agg #[.int .i64 c, .int .i64 2, .int .i64 1, .slice none 0 0] := by
  unfold frameV; rw [h.1, h.2]
set_option maxHeartbeats 6000000 in
set_option maxRecDepth 100000 in
theorem answers_law (A : Option Addr) (n c : Nat) (l : List Fr) (A3 : Option Addr) (nx c3 : Nat) (d : List Int) (w : World) (h : kdK_link_Frame.C w A n l) (hok : ∀ o ∈ l, okK_link_Frame o) (hx : (Kd.int .u8).C w A3 nx d) (hbx : Bytes d) (hc3 : nx ≤ c3) :
    Calls Try.prog 6 #[.slice A n c, .slice A3 nx c3] w (fun e w' => e = .returned (.bool true) ∧ Below w.heap.size w w') := by
  have hn : n ≤ 9223372036854775807 := h.2.1
  have HL := Aside0.mk (show l.length = n from h.1)
  have HOK := Aside0.mk hok
  have H := Aside0.mk h
  have HX := Aside0.mk (reads_int hx)
  have hnx : nx ≤ 9223372036854775807 := hx.2.1
  have HD := Aside0.mk (show d.length = nx from hx.1)
  clear h hx hok
  go_enter Try.func6, Try.ntmps6
  go_wp2_with fail
  (with_reducible refine (first_any _).mono ?_)
  rintro _ w1 ⟨rfl, hb1⟩
  have hle1 := hb1.size
  go_wp2_with fail
  (with_reducible refine (new_any w.heap.size 1 2 _ hle1).mono ?_)
  rintro _ w2 ⟨g, rfl, hs2, hg2, hb2⟩
  have HS2 := Aside0.mk hs2
  have HB2 := Aside0.mk (below_two hb1 hb2)
  have lg2 : w.heap.size ≤ g := Nat.le_trans hle1 hg2
  have l2 := hs2.lt
  clear hs2 hb1 hb2 hle1
  go_wp2_with fail
  (with_reducible refine (few_any A n c l _ (Kd.C_below H.out HB2.out)).mono ?_)
  rintro _ w3 ⟨rfl, rfl⟩
  cases hf : fewB l
  · go_wp2_with fail
    (with_reducible refine (first_any _).mono ?_)
    rintro _ w4 ⟨rfl, hb4⟩
    have HB4 := Aside0.mk (below_two HB2.out hb4)
    clear hb4
    go_wp2
    go_ret
    exact ⟨rfl, HB4.out⟩
  have HF := Aside0.mk (few_small hf)
  by_cases hr : 6000 < nx
  · go_wp2_with fail
    (with_reducible refine (first_any _).mono ?_)
    rintro _ w4 ⟨rfl, hb4⟩
    have HB4 := Aside0.mk (below_two HB2.out hb4)
    clear hb4
    go_wp2
    go_ret
    exact ⟨rfl, HB4.out⟩
  go_wp2
  go_loopw [6] (fun i wr => ∃ (j : Nat) (s : St), j ≤ n ∧ i = .int .i64 j ∧ Aside0 (IsSt w.heap.size wr g s) ∧ Aside0 (s.own = 1 ∧ s.master = 2) ∧ Aside0 (Below w.heap.size w wr)) (fun i _ => n - (intOf i).toNat)
  case atStart => exact ⟨0, _, Nat.zero_le _, rfl, HS2, ⟨rfl, rfl⟩, HB2⟩
  case round =>
    clear HS2
    obtain ⟨j, s, hj, rfl, HS, HM, HB⟩ := hrel
    by_cases hlt : j < n
    · obtain ⟨ad, A4, c4, rfl, k0, k1, k2, k3, l4, g4⟩ := K_link_Frame_at H.out j (by omega) (by omega)
      rw [Int.toNat_natCast] at k0 k1 k2 k3 l4 g4
      have k3o := k3
      replace k0 := pw_cell_below HB.out k0
      replace k1 := pw_cell_below HB.out k1
      replace k2 := pw_cell_below HB.out k2
      replace k3 := pw_cell_below HB.out k3
      have hmem := getD_mem l j (by rw [HL.out]; exact hlt) zK_link_Frame
      obtain ⟨o, ho⟩ : ∃ o, l.getD j zK_link_Frame = o := ⟨_, rfl⟩
      rw [ho] at k0 k1 k2 k3 l4 g4 hmem k3o
      have K3 := Aside0.mk k3o
      have hsm := HF.out.2 o hmem
      have hby := wf_bytes (HOK.out o hmem).2.2.2
      have HRw := Aside0.mk (reads_int g4)
      have hro : ∀ w5, Chg g wr w5 → ReadsInt w5 .u8 A4 o.Data.length o.Data := fun w5 hc => HRw.out.below (HB.out.trans (hc.below lg2 HB.out.size))
      clear ho hmem g4 k3o
      obtain ⟨L, hLL⟩ : ∃ L, o.Data.length = L := ⟨_, rfl⟩
      rw [hLL] at k3 l4 hro hsm K3 HRw
      go_wp2_with fail
      (with_reducible refine (take_any w.heap.size g s o.Ctl o.Dest o.Src A4 L c4 o.Data _ HS.out hro (by omega)).mono ?_)
      rintro _ w5 ⟨v5, rfl, ho5, hs5, hc5⟩
      have hs5' := tk_same s o.Ctl o.Dest o.Src
      have hB5 := HB.out.trans (hc5.below lg2 HB.out.size)
      have hans := tk_ans s o.Ctl o.Dest o.Src
      generalize (tk s o.Ctl o.Dest o.Src).ans = an at hans ⊢
      generalize (tk s o.Ctl o.Dest o.Src).up = b2 at ho5 ⊢
      have HR5 := Aside0.mk (show ∃ (s : St), Aside0 (IsSt w.heap.size w5 g s) ∧ Aside0 (s.own = 1 ∧ s.master = 2) from
        ⟨_, ⟨hs5⟩, ⟨hs5'.1.trans HM.out.1, hs5'.2.trans HM.out.2⟩⟩)
      have HB5 := Aside0.mk hB5
      have k35 : ∀ o1, (w5.alloc o1).cell? ⟨(ad.add (j * 4)).block, (ad.add (j * 4)).off + 3, none⟩ = some (.slice A4 L c4) := fun o1 => pw_cell_below (hB5.trans (below_alloc (Below.refl w5.heap.size w5) o1 |>.mono hB5.size)) K3.out
      clear hs5 hs5' hB5 hc5 hro k0 k1 k2 k3
      cases b2
      · obtain ⟨A5, c5, rfl, _⟩ := own_reads (show w5.ownsRow wr.heap.size 5 1 v5 0 (nums .u8 []) from ho5)
        clear ho5
        rcases hans with rfl | rfl | rfl | rfl | rfl
        all_goals
          first | rw [fr_none s] | rw [fr_some s _ HM.out]
          go_wp2
          go_round
          case rel => obtain ⟨s5, q1, q2⟩ := HR5.out; exact ⟨j + 1, s5, by omega, by go_num, ⟨q1.out.below (below_alloc (Below.refl _ _) _)⟩, q2, ⟨HB5.out.trans ((below_alloc (Below.refl _ _) _).mono HB5.out.size)⟩⟩
          case measure => simp [intOf]; omega
      · obtain ⟨A5, c5, rfl, hr5⟩ := own_reads (show w5.ownsRow wr.heap.size 5 1 v5 L (nums .u8 o.Data) by rw [← hLL]; exact ho5)
        have HR6 := Aside0.mk hr5
        clear ho5 hr5
        rcases hans with rfl | rfl | rfl | rfl | rfl
        all_goals
          first | rw [fr_none s] | rw [fr_some s _ HM.out]
          go_wp2_with fail
          (with_reducible refine (bytes_same A5 A4 L L c5 c4 o.Data _ (HR6.out.below (below_alloc (Below.refl _ _) _)) (HRw.out.below (HB5.out.trans ((below_alloc (Below.refl _ _) _).mono HB5.out.size))) hby).mono ?_)
          rintro _ w7 ⟨rfl, rfl⟩
          go_wp2
          go_round
          case rel => obtain ⟨s5, q1, q2⟩ := HR5.out; exact ⟨j + 1, s5, by omega, by go_num, ⟨q1.out.below (below_alloc (Below.refl _ _) _)⟩, q2, ⟨HB5.out.trans ((below_alloc (Below.refl _ _) _).mono HB5.out.size)⟩⟩
          case measure => simp [intOf]; omega
    · obtain rfl : j = n := by omega
      go_wp2_with fail
      (with_reducible refine (send_any w.heap.size g s A3 nx c3 d _ HS.out (HX.out.below HB.out) (by omega)).mono ?_)
      rintro _ w5 ⟨v5, rfl, ho5, hb5⟩
      rw [HM.out.1, HM.out.2]
      obtain ⟨A5, c5, rfl, hr5⟩ := own_reads (show w5.ownsRow wr.heap.size 5 1 v5 nx (nums .u8 d) by rw [← HD.out]; exact ho5)
      have HR5 := Aside0.mk hr5
      have HB5 := Aside0.mk (below_two HB.out hb5)
      clear ho5 hr5 hb5
      go_wp2_with fail
      (with_reducible refine (first_any _).mono ?_)
      rintro _ w7 ⟨rfl, hb7⟩
      have h7 := blk_below (heap_alloc_new w5 _) hb7
      have HB7 := Aside0.mk (below_two (below_alloc (Below.refl _ _) _) hb7)
      have a0 := blk_cell h7 0
      have a1 := blk_cell h7 1
      have a2 := blk_cell h7 2
      have a3 := blk_cell h7 3
      simp only [List.getElem?_toArray, List.getElem?_cons_zero, List.getElem?_cons_succ] at a0 a1 a2 a3
      clear h7 hb7
      go_wp2_with fail
      (with_reducible refine (bytes_same A5 A3 nx nx c5 c3 d _ (HR5.out.below HB7.out) (HX.out.below (below_two HB5.out HB7.out)) hbx).mono ?_)
      rintro _ w8 ⟨rfl, rfl⟩
      go_wp2
      go_ret
      exact ⟨rfl, below_two HB5.out HB7.out⟩
end Go.Proofs.Ytpepgblmcjgbgaa
