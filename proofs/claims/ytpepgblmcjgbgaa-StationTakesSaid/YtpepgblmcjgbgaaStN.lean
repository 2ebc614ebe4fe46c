/- The secondary station: two frames alike; resets, the law. Conditions: the arguments read as data. -/
import Derived.Test.YtpepgblmcjgbgaaStJ
namespace Go.Proofs.Ytpepgblmcjgbgaa
open Go.RowKit Go.Proofs.YtpepgblmcjgbgaaW.PrintWords
set_option linter.unusedVariables false
set_option maxHeartbeats 1000000 in
set_option maxRecDepth 100000 in
theorem same_nil (c d r : Int) (w : World) :
    Calls Try.prog 17 #[.agg #[.int .i64 c, .int .i64 d, .int .i64 r, .slice none 0 0], .agg #[.int .i64 c, .int .i64 d, .int .i64 r, .slice none 0 0]] w (fun e w' => e = .returned (.bool true) ∧ Below w.heap.size w w') := by
  go_enter Try.func17, Try.ntmps17
  go_wp2_with fail
  (with_reducible refine (equal_any none none 0 0 0 0 [] [] _ (reads_nil _ _ _) (reads_nil _ _ _) bytes_nil bytes_nil).mono ?_)
  rintro _ w1 ⟨rfl, rfl⟩
  go_wp2
  go_ret
  exact ⟨rfl, below_alloc (below_alloc (Below.refl _ _) _) _⟩
theorem take_eq (B g : Nat) (s : St) (ctl dest src : Int) (A : Option Addr) (n c : Nat) (l : List Int) (w : World) (x : St) (an : Option Int) (up : Bool) (fa fb fd : Int) (ht : tk s ctl dest src = ⟨x, an, up⟩) (hF : frameV s an = .agg #[.int .i64 fa, .int .i64 fb, .int .i64 fd, .slice none 0 0]) (hs : IsSt B w g s) (hr : ∀ w1, Chg g w w1 → ReadsInt w1 .u8 A n l) (hsz : n ≤ 140737488355328) :
    Calls Try.prog 11 #[.pointer (some ⟨g, 0, none⟩), .agg #[.int .i64 ctl, .int .i64 dest, .int .i64 src, .slice A n c]] w (Took B g (.agg #[.int .i64 fa, .int .i64 fb, .int .i64 fd, .slice none 0 0]) an.isSome up x (dat up l) w) := by
  have h := take_any B g s ctl dest src A n c l w hs hr hsz
  rw [ht] at h
  have h2 : TakePost B g s ⟨x, an, up⟩ l w = Took B g (frameV s an) an.isSome up x (dat up l) w := rfl
  rw [h2, hF] at h; exact h
theorem own_reads_of {w : World} {B n c : Nat} {A : Option Addr} {l : List Int} (h : w.ownsRow B 5 1 (.slice A n c) n (nums .u8 l)) : ReadsInt w .u8 A n l := by
  obtain ⟨A1, c1, he, hr⟩ := own_reads h
  injection he with e1 e2 e3
  rw [e1]; exact hr
theorem bytes_dat {up : Bool} {l : List Int} (h : Bytes l) : Bytes (dat up l) := by
  cases up
  · exact bytes_nil
  · exact h
theorem tk_ask (s : St) (h1 : s.own = 1) (h2 : s.master = 2) : tk s 201 1 2 = ⟨s, some 11, false⟩ := by
  obtain ⟨o, m, r, e⟩ := s
  obtain rfl : o = 1 := h1
  obtain rfl : m = 2 := h2
  rfl
theorem tk_res (s : St) (h1 : s.own = 1) (h2 : s.master = 2) : tk s 192 1 2 = ⟨⟨1, 2, true, true⟩, some 0, false⟩ := by
  obtain ⟨o, m, r, e⟩ := s
  obtain rfl : o = 1 := h1
  obtain rfl : m = 2 := h2
  rfl
set_option maxHeartbeats 6000000 in
set_option maxRecDepth 100000 in
theorem resets_law (A : Option Addr) (n c : Nat) (l : List Fr) (A2 : Option Addr) (n2 c2 : Nat) (l2 : List Fr) (w : World) (h : kdK_link_Frame.C w A n l) (h2 : kdK_link_Frame.C w A2 n2 l2) (hok : ∀ o ∈ l2, okK_link_Frame o) :
    Calls Try.prog 7 #[.slice A n c, .slice A2 n2 c2] w (fun e w' => e = .returned (.bool true) ∧ Below w.heap.size w w') := by
  have hn : n ≤ 9223372036854775807 := h.2.1
  have hn2 : n2 ≤ 9223372036854775807 := h2.2.1
  have HL := Aside0.mk (show l.length = n from h.1)
  have HL2 := Aside0.mk (show l2.length = n2 from h2.1)
  have HOK := Aside0.mk hok
  have H := Aside0.mk h
  have H2 := Aside0.mk h2
  clear h h2 hok
  go_enter Try.func7, Try.ntmps7
  go_wp2_with fail
  (with_reducible refine (first_any _).mono ?_)
  rintro _ w1 ⟨rfl, hb1⟩
  have hle1 := hb1.size
  go_wp2_with fail
  (with_reducible refine (new_any w.heap.size 1 2 _ hle1).mono ?_)
  rintro _ w2 ⟨g, rfl, hs2, hg2, hb2⟩
  have HB2 := Aside0.mk (below_two hb1 hb2)
  have lg2 : w.heap.size ≤ g := Nat.le_trans hle1 hg2
  have l2g := hs2.lt
  have hle2 := HB2.out.size
  go_wp2_with fail
  (with_reducible refine (new_any w.heap.size 1 2 _ hle2).mono ?_)
  rintro _ w3 ⟨g', rfl, hs3', hg3, hb3⟩
  have HS3 := Aside0.mk (hs2.below hb3)
  have HS3' := Aside0.mk hs3'
  have HB3 := Aside0.mk (below_two HB2.out hb3)
  have l3g := hs3'.lt
  have hgg : g ≠ g' := by omega
  have hgl : g < w3.heap.size := by have := hb3.size; omega
  have hle3 : w.heap.size ≤ w2.heap.size := hle2
  have lg3 : w.heap.size ≤ g' := Nat.le_trans hle2 hg3
  clear hs2 hs3' hb1 hb2 hb3 hle1
  go_wp2_with fail
  (with_reducible refine (few_any A n c l _ (Kd.C_below H.out HB3.out)).mono ?_)
  rintro _ w4 ⟨rfl, rfl⟩
  cases hf : fewB l
  · go_wp2_with fail
    (with_reducible refine (first_any _).mono ?_)
    rintro _ w4 ⟨rfl, hb4⟩
    have HB4 := Aside0.mk (below_two HB3.out hb4)
    clear hb4
    go_wp2
    go_ret
    exact ⟨rfl, HB4.out⟩
  go_wp2_with fail
  (with_reducible refine (few_any A2 n2 c2 l2 _ (Kd.C_below H2.out HB3.out)).mono ?_)
  rintro _ w4 ⟨rfl, rfl⟩
  cases hf2 : fewB l2
  · go_wp2_with fail
    (with_reducible refine (first_any _).mono ?_)
    rintro _ w4 ⟨rfl, hb4⟩
    have HB4 := Aside0.mk (below_two HB3.out hb4)
    clear hb4
    go_wp2
    go_ret
    exact ⟨rfl, HB4.out⟩
  have HF := Aside0.mk (few_small hf)
  have HF2 := Aside0.mk (few_small hf2)
  go_wp2
  go_loopw [7] (fun i wr => ∃ (j : Nat) (s : St), j ≤ n ∧ i = .int .i64 j ∧ Aside0 (IsSt w.heap.size wr g s) ∧ Aside0 (IsSt w.heap.size wr g' ⟨1, 2, false, false⟩) ∧ Aside0 (s.own = 1 ∧ s.master = 2) ∧ Aside0 (Below w.heap.size w wr)) (fun i _ => n - (intOf i).toNat)
  case atStart => exact ⟨0, _, Nat.zero_le _, rfl, HS3, HS3', ⟨rfl, rfl⟩, HB3⟩
  case round =>
    clear HS3 HS3'
    obtain ⟨j, s, hj, rfl, HS, HS', HM, HB⟩ := hrel
    by_cases hlt : j < n
    · obtain ⟨ad, A4, c4, rfl, k0, k1, k2, k3, l4, g4⟩ := K_link_Frame_at H.out j (by omega) (by omega)
      rw [Int.toNat_natCast] at k0 k1 k2 k3 l4 g4
      replace k0 := pw_cell_below HB.out k0
      replace k1 := pw_cell_below HB.out k1
      replace k2 := pw_cell_below HB.out k2
      replace k3 := pw_cell_below HB.out k3
      have hmem := getD_mem l j (by rw [HL.out]; exact hlt) zK_link_Frame
      obtain ⟨o, ho⟩ : ∃ o, l.getD j zK_link_Frame = o := ⟨_, rfl⟩
      rw [ho] at k0 k1 k2 k3 l4 g4 hmem
      have hsm := HF.out.2 o hmem
      have HRw := Aside0.mk (reads_int g4)
      have hro : ∀ w5, Chg g wr w5 → ReadsInt w5 .u8 A4 o.Data.length o.Data := fun w5 hc => HRw.out.below (HB.out.trans (hc.below lg2 HB.out.size))
      clear ho hmem g4
      go_wp2_with fail
      (with_reducible refine (take_any w.heap.size g s o.Ctl o.Dest o.Src A4 o.Data.length c4 o.Data _ HS.out hro (by omega)).mono ?_)
      rintro _ w5 ⟨v5, rfl, _, hs5, hc5⟩
      have hs5' := tk_same s o.Ctl o.Dest o.Src
      have HR5 := Aside0.mk (show ∃ (s : St), Aside0 (IsSt w.heap.size w5 g s) ∧ Aside0 (IsSt w.heap.size w5 g' ⟨1, 2, false, false⟩) ∧ Aside0 (s.own = 1 ∧ s.master = 2) ∧ Aside0 (Below w.heap.size w w5) from
        ⟨_, ⟨hs5⟩, ⟨HS'.out.other hc5 (Ne.symm hgg)⟩, ⟨hs5'.1.trans HM.out.1, hs5'.2.trans HM.out.2⟩, ⟨HB.out.trans (hc5.below lg2 HB.out.size)⟩⟩)
      clear hs5 hs5' hc5
      go_wp2
      go_round
      case rel => obtain ⟨s5, q1, q2, q3, q4⟩ := HR5.out; exact ⟨j + 1, s5, by omega, by go_num, q1, q2, q3, q4⟩
      case measure => simp [intOf]; omega
    · obtain rfl : j = n := by omega
      go_wp2_with fail
      (with_reducible refine (to_lit 192 none 0 0 _).mono ?_)
      rintro _ w4 ⟨rfl, hb4⟩
      have hs4 := HS.out.below hb4
      have HS4' := Aside0.mk (HS'.out.below hb4)
      have hr4 : ∀ w0, Chg g w4 w0 → ReadsInt w0 .u8 none 0 [] := fun w0 _ => reads_nil w0 .u8 none
      have HB4 := Aside0.mk (HB.out.trans (hb4.mono HB.out.size))
      clear hb4
      go_wp2_with fail
      (with_reducible refine (take_ans _ g _ 192 1 2 _ 0 0 [] _ _ _ _ (tk_res s HM.out.1 HM.out.2) hs4 hr4 (by decide)).mono ?_)
      rintro _ w5 ⟨v5, rfl, _, hs5, hc5⟩
      have HS5 := Aside0.mk hs5
      have HS5' := Aside0.mk (HS4'.out.other hc5 (Ne.symm hgg))
      have HB5 := Aside0.mk (HB4.out.trans (hc5.below lg2 HB4.out.size))
      clear hs5 hc5 hs4 hr4
      go_wp2_with fail
      (with_reducible refine (to_lit 192 none 0 0 _).mono ?_)
      rintro _ w6 ⟨rfl, hb6⟩
      have HS6 := Aside0.mk (HS5.out.below hb6)
      have hs6' := HS5'.out.below hb6
      have hr6 : ∀ w0, Chg g' w6 w0 → ReadsInt w0 .u8 none 0 [] := fun w0 _ => reads_nil w0 .u8 none
      have HB6 := Aside0.mk (HB5.out.trans (hb6.mono HB5.out.size))
      clear hb6
      go_wp2_with fail
      (with_reducible refine (take_ans _ g' _ 192 1 2 _ 0 0 [] _ _ _ _ (tk_res ⟨1, 2, false, false⟩ rfl rfl) hs6' hr6 (by decide)).mono ?_)
      rintro _ w7 ⟨v7, rfl, _, hs7, hc7⟩
      have HS7' := Aside0.mk hs7
      have HS7 := Aside0.mk (HS6.out.other hc7 hgg)
      have HB7 := Aside0.mk (HB6.out.trans (hc7.below lg3 HB6.out.size))
      clear hs7 hc7 hs6' hr6 HS HS'
      go_wp2
      go_loopw [8] (fun i wr => ∃ (j : Nat) (s : St), j ≤ n2 ∧ i = .int .i64 j ∧ Aside0 (IsSt w.heap.size wr g s) ∧ Aside0 (IsSt w.heap.size wr g' s) ∧ Aside0 (s.own = 1 ∧ s.master = 2) ∧ Aside0 (Below w.heap.size w wr)) (fun i _ => n2 - (intOf i).toNat)
      case atStart => exact ⟨0, _, Nat.zero_le _, rfl, HS7, HS7', ⟨rfl, rfl⟩, HB7⟩
      case round =>
        clear HS7 HS7' HS4' HS5 HS5' HS6 HB4 HB5 HB6 HB3 HB2
        obtain ⟨i, s, hi, rfl, HS, HS', HM, HB⟩ := hrel
        by_cases hlt2 : i < n2
        · obtain ⟨ad, A4, c4, rfl, k0, k1, k2, k3, l4, g4⟩ := K_link_Frame_at H2.out i (by omega) (by omega)
          rw [Int.toNat_natCast] at k0 k1 k2 k3 l4 g4
          have hmem := getD_mem l2 i (by rw [HL2.out]; exact hlt2) zK_link_Frame
          obtain ⟨o, ho⟩ : ∃ o, l2.getD i zK_link_Frame = o := ⟨_, rfl⟩
          rw [ho] at k0 k1 k2 k3 l4 g4 hmem
          have hsm := HF2.out.2 o hmem
          have hby := wf_bytes (HOK.out o hmem).2.2.2
          have HRw := Aside0.mk (reads_int g4)
          obtain ⟨L, hLL⟩ : ∃ L, o.Data.length = L := ⟨_, rfl⟩
          rw [hLL] at k3 l4 hsm HRw
          have HLL := Aside0.mk hLL
          have K := Aside0.mk (And.intro k0 (And.intro k1 (And.intro k2 k3)))
          replace k0 := pw_cell_below HB.out k0
          replace k1 := pw_cell_below HB.out k1
          replace k2 := pw_cell_below HB.out k2
          replace k3 := pw_cell_below HB.out k3
          have hro : ∀ w5, Chg g wr w5 → ReadsInt w5 .u8 A4 L o.Data := fun w5 hc => HRw.out.below (HB.out.trans (hc.below lg2 HB.out.size))
          clear ho hmem g4 hLL
          obtain ⟨sx, an, b2, hT⟩ : ∃ sx an b2, tk s o.Ctl o.Dest o.Src = ⟨sx, an, b2⟩ := ⟨_, _, _, rfl⟩
          have hT3 := tk_same s o.Ctl o.Dest o.Src
          rw [hT] at hT3
          obtain ⟨fa, fb, fd, hF⟩ := frameV_agg s an
          have HT := Aside0.mk hT
          have HFv := Aside0.mk hF
          have HMx := Aside0.mk (show sx.own = 1 ∧ sx.master = 2 from ⟨hT3.1.trans HM.out.1, hT3.2.trans HM.out.2⟩)
          have HBy := Aside0.mk (bytes_dat (up := b2) hby)
          clear hT hT3 hF hby
          go_wp2_with fail
          (with_reducible refine (take_eq w.heap.size g s o.Ctl o.Dest o.Src A4 L c4 o.Data _ sx an b2 fa fb fd HT.out HFv.out HS.out hro (by omega)).mono ?_)
          rintro _ w5 ⟨v5, rfl, ho5, hs5, hc5⟩
          obtain ⟨D, hD⟩ : ∃ D, dat b2 o.Data = D := ⟨_, rfl⟩
          rw [hD] at ho5 HBy
          have HD := Aside0.mk hD
          obtain ⟨LD, hLD⟩ : ∃ LD, D.length = LD := ⟨_, rfl⟩
          rw [hLD] at ho5
          obtain ⟨A5, c5, rfl, hr5⟩ := own_reads ho5
          have HLD := Aside0.mk hLD
          have hB5 := HB.out.trans (hc5.below lg2 HB.out.size)
          have HS5' := Aside0.mk (HS'.out.other hc5 (Ne.symm hgg))
          have HS5 := Aside0.mk hs5
          have HB5 := Aside0.mk hB5
          have HO5 := Aside0.mk ho5
          have lw5 : w.heap.size ≤ w5.heap.size := hB5.size
          have lg5 : g' < w5.heap.size := HS5'.out.lt
          have lgg5 : g < w5.heap.size := HS5.out.lt
          have k0 := fun o1 => pw_cell_below (below_alloc hB5 o1) K.out.1
          have k1 := fun o1 => pw_cell_below (below_alloc hB5 o1) K.out.2.1
          have k2 := fun o1 => pw_cell_below (below_alloc hB5 o1) K.out.2.2.1
          have k3 := fun o1 => pw_cell_below (below_alloc hB5 o1) K.out.2.2.2
          clear hs5 hc5 ho5 hro hr5 hD hLD hB5
          have hro : ∀ o1 w6, Chg g' (w5.alloc o1) w6 → ReadsInt w6 .u8 A4 L o.Data := fun o1 w6 hc => HRw.out.below ((below_alloc HB5.out o1).trans (hc.below lg3 (below_alloc HB5.out o1).size))
          go_wp2_with fail
          (with_reducible refine (take_eq w.heap.size g' s o.Ctl o.Dest o.Src A4 L c4 o.Data _ sx an b2 fa fb fd HT.out HFv.out (HS5'.out.below (below_alloc (Below.refl _ _) _)) (hro _) (by omega)).mono ?_)
          rintro _ w6 ⟨v6, rfl, ho6, hs6, hc6⟩
          rw [HD.out, HLD.out] at ho6
          obtain ⟨A6, c6, rfl, hr6⟩ := own_reads ho6
          have hc56 : Chg g' w5 w6 := ((Chg.refl g' w5).alloc _).trans hc6
          have hA6 := (hc6.block w5.heap.size (by simp) (by omega)).trans (heap_alloc_new w5 _)
          have HO6 := Aside0.mk (own_reads_of (own_chg HO5.out HS5'.out.1 (by decide) hc56))
          have HR6 := Aside0.mk hr6
          have HS6' := Aside0.mk hs6
          have HS6 := Aside0.mk (HS5.out.other hc56 hgg)
          have HB6 := Aside0.mk (HB5.out.trans (hc56.below lg3 HB5.out.size))
          have HA6 := Aside0.mk hA6
          have v0 : ∀ o1, (w6.alloc o1).cell? ⟨w5.heap.size, 0, none⟩ = some (.int .i64 fa) := fun o1 => pw_cell_below (below_alloc (Below.refl _ _) _) (blk_cell hA6 0)
          have v1 : ∀ o1, (w6.alloc o1).cell? ⟨w5.heap.size, 1, none⟩ = some (.int .i64 fb) := fun o1 => pw_cell_below (below_alloc (Below.refl _ _) _) (blk_cell hA6 1)
          have v2 : ∀ o1, (w6.alloc o1).cell? ⟨w5.heap.size, 2, none⟩ = some (.int .i64 fd) := fun o1 => pw_cell_below (below_alloc (Below.refl _ _) _) (blk_cell hA6 2)
          have v3 : ∀ o1, (w6.alloc o1).cell? ⟨w5.heap.size, 3, none⟩ = some (.slice none 0 0) := fun o1 => pw_cell_below (below_alloc (Below.refl _ _) _) (blk_cell hA6 3)
          clear hc6 hc56 hA6 ho6 hr6 hs6 hro k0 k1 k2 k3
          go_wp2_with fail
          (with_reducible refine (same_nil fa fb fd _).mono ?_)
          rintro _ w7 ⟨rfl, hb7⟩
          have HB7 := Aside0.mk (below_two (below_alloc (Below.refl _ _) _) hb7)
          clear hb7
          go_wp2_with fail
          (with_reducible refine (bytes_same A5 A6 LD LD c5 c6 D _ (HO6.out.below HB7.out) (HR6.out.below HB7.out) HBy.out).mono ?_)
          rintro _ w8 ⟨rfl, rfl⟩
          go_wp2_with fail
          (with_reducible refine (to_lit 201 none 0 0 _).mono ?_)
          rintro _ w9 ⟨rfl, hb9⟩
          have HB9 := Aside0.mk (below_two HB7.out hb9)
          have hs9 := HS6.out.below HB9.out
          have hs9' := HS6'.out.below HB9.out
          have HB9w := Aside0.mk (HB6.out.trans (HB9.out.mono HB6.out.size))
          have hr9 : ∀ w0, Chg g w9 w0 → ReadsInt w0 .u8 none 0 [] := fun w0 _ => reads_nil w0 .u8 none
          clear hb9
          go_wp2_with fail
          (with_reducible refine (take_ans _ g _ 201 1 2 _ 0 0 [] _ _ _ _ (tk_ask sx HMx.out.1 HMx.out.2) hs9 hr9 (by decide)).mono ?_)
          rintro _ wa ⟨va, rfl, _, hsa, hca⟩
          have HRa := Aside0.mk (show Aside0 (IsSt w.heap.size wa g sx) ∧ Aside0 (IsSt w.heap.size wa g' sx) ∧ Aside0 (Below w.heap.size w wa) from ⟨⟨hsa⟩, ⟨hs9'.other hca (Ne.symm hgg)⟩, ⟨HB9w.out.trans (hca.below lg2 HB9w.out.size)⟩⟩)
          clear hs9 hs9' hr9 hsa hca
          go_wp2
          go_round
          case rel => exact ⟨i + 1, sx, by omega, by go_num, ⟨HRa.out.1.out.below (below_alloc (Below.refl _ _) _)⟩, ⟨HRa.out.2.1.out.below (below_alloc (Below.refl _ _) _)⟩, HMx, ⟨below_alloc HRa.out.2.2.out _⟩⟩
          case measure => simp [intOf]; omega
        · obtain rfl : i = n2 := by omega
          go_wp2_with fail
          (with_reducible refine (first_any _).mono ?_)
          rintro _ w7 ⟨rfl, hb7⟩
          have HB7 := Aside0.mk (below_two HB.out hb7)
          clear hb7
          go_wp2
          go_ret
          exact ⟨rfl, HB7.out⟩
end Go.Proofs.Ytpepgblmcjgbgaa
