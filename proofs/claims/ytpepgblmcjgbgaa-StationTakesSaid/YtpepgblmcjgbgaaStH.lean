/- The secondary station: frames that are not ours, the law. Conditions: the arguments read as data. -/
import Derived.Test.YtpepgblmcjgbgaaStG
namespace Go.Proofs.Ytpepgblmcjgbgaa
open Go.RowKit Go.Proofs.YtpepgblmcjgbgaaW.PrintWords
set_option linter.unusedVariables false
theorem state_as (B g : Nat) (s : St) (up fc : Bool) (w : World) (hs : IsSt B w g s) (h1 : s.ready = up) (h2 : (s.ready && s.expect) = fc) :
    Calls Try.prog 15 #[.pointer (some ⟨g, 0, none⟩)] w fun e w' => e = .returned (.tuple #[.bool up, .bool fc]) ∧ ∃ m, w' = w.drewN m := by
  have h := state_any B g s w hs
  rw [h2, h1] at h; exact h
theorem tk_plain (s : St) (h1 : s.own = 1) (h2 : s.master = 2) : tk s 196 1 2 = ⟨s, none, true⟩ := by
  obtain ⟨o, m, r, e⟩ := s
  obtain rfl : o = 1 := h1
  obtain rfl : m = 2 := h2
  rfl
theorem tk_deaf (s : St) (c d r : Int) (h1 : s.own = 1) (h2 : s.master = 2) (h : (d != 1) = true ∨ (r != 2) = true ∨ (bits .and .i64 c 192 != 192) = true) : tk s c d r = ⟨s, none, false⟩ := by
  have hd : deafB s c d r = true := by
    unfold deafB
    rw [h1, h2]
    rcases h with h | h | h
    · rw [h]; rfl
    · rw [h]; simp
    · rw [bits_link] at h
      cases (d != 1) <;> cases (r != 2) <;> cases h7 : (bits .and .i64 c 128 == 0) <;> cases h6 : (bits .and .i64 c 64 == 0) <;> first | rfl | (rw [h7, h6] at h; exact absurd h (by decide))
  unfold tk; rw [if_pos hd]
theorem frameV_agg (s : St) (o : Option Int) : ∃ a b c, frameV s o = .agg #[.int .i64 a, .int .i64 b, .int .i64 c, .slice none 0 0] := by
  cases o with
  | none => exact ⟨0, 0, 0, rfl⟩
  | some c => exact ⟨c, s.master, s.own, rfl⟩
theorem tk_same (s : St) (c d r : Int) : (tk s c d r).st.own = s.own ∧ (tk s c d r).st.master = s.master := by
  unfold tk; repeat' split
  all_goals exact ⟨rfl, rfl⟩
set_option maxHeartbeats 6000000 in
set_option maxRecDepth 100000 in
theorem deaf_law (A : Option Addr) (n c : Nat) (l : List Fr) (x : Fr) (A3 : Option Addr) (c3 : Nat) (w : World) (h : kdK_link_Frame.C w A n l) (hx : (Kd.int .u8).C w A3 x.Data.length x.Data) (hbx : Bytes x.Data) (hc3 : x.Data.length ≤ c3) :
    Calls Try.prog 4 #[.slice A n c, .agg #[.int .i64 x.Ctl, .int .i64 x.Dest, .int .i64 x.Src, .slice A3 x.Data.length c3]] w (fun e w' => e = .returned (.bool true) ∧ Below w.heap.size w w') := by
  have hn : n ≤ 9223372036854775807 := h.2.1
  have HL := Aside0.mk (show l.length = n from h.1)
  have H := Aside0.mk h
  have HX := Aside0.mk (reads_int hx)
  have hnx : x.Data.length ≤ 9223372036854775807 := hx.2.1
  obtain ⟨nx, hnx2⟩ : ∃ nx, x.Data.length = nx := ⟨_, rfl⟩
  rw [hnx2] at hnx hc3 HX ⊢
  clear h hx
  go_enter Try.func4, Try.ntmps4
  go_wp2_with fail
  (with_reducible refine (first_any _).mono ?_)
  rintro _ w1 ⟨rfl, hb1⟩
  trace "1"
  have hbb1 := below_two (below_alloc (Below.refl _ _) _) hb1
  have hv1 := blk_below (heap_alloc_new w _) hb1
  have hle1 := hbb1.size
  have lw1 := blk_lt hv1
  go_wp2_with fail
  (with_reducible refine (new_any w.heap.size 1 2 _ hle1).mono ?_)
  rintro _ w2 ⟨g, rfl, hs2, hg2, hb2⟩
  have HS2 := Aside0.mk hs2
  have HV2 := Aside0.mk (blk_below hv1 hb2)
  have HB2 := Aside0.mk (below_two hbb1 hb2)
  have lg2 : w.heap.size < g := Nat.lt_of_lt_of_le lw1 hg2
  have l2 := hs2.lt
  clear hs2 hb1 hb2 hbb1 hv1 hle1 lw1
  go_wp2_with fail
  (with_reducible refine (few_any A n c l _ (Kd.C_below H.out HB2.out)).mono ?_)
  rintro _ w3 ⟨rfl, rfl⟩
  have kv3 : w2.cell? ⟨w.heap.size, 3, none⟩ = some (.slice A3 nx c3) := blk_cell HV2.out 3
  cases hf : fewB l
  · go_wp2_with fail
    (with_reducible refine (first_any _).mono ?_)
    rintro _ w4 ⟨rfl, hb4⟩
    have HB4 := Aside0.mk (below_two HB2.out hb4)
    clear hb4
    go_wp2
    go_ret
    exact ⟨rfl, HB4.out⟩
  have HF := Aside0.mk (few_small hf)
  by_cases hr : 6000 < nx
  · go_wp2_with fail
    (with_reducible refine (first_any _).mono ?_)
    rintro _ w4 ⟨rfl, hb4⟩
    have HB4 := Aside0.mk (below_two HB2.out hb4)
    clear hb4
    go_wp2
    go_ret
    exact ⟨rfl, HB4.out⟩
  go_wp2
  go_loopw [6] (fun i wr => ∃ (j : Nat) (s : St), j ≤ n ∧ i = .int .i64 j ∧ Aside0 (IsSt w.heap.size wr g s) ∧ Aside0 (s.own = 1 ∧ s.master = 2) ∧ Aside0 (wr.heap[w.heap.size]? = some (.cells #[.int .i64 x.Ctl, .int .i64 x.Dest, .int .i64 x.Src, .slice A3 nx c3] 29 (0, 0))) ∧ Aside0 (Below w.heap.size w wr)) (fun i _ => n - (intOf i).toNat)
  case atStart => exact ⟨0, _, Nat.zero_le _, rfl, HS2, ⟨rfl, rfl⟩, HV2, HB2⟩
  case round =>
    clear HS2 HV2 kv3
    obtain ⟨j, s, hj, rfl, HS, HM, HV, HB⟩ := hrel
    by_cases hlt : j < n
    · obtain ⟨ad, A4, c4, rfl, k0, k1, k2, k3, l4, g4⟩ := K_link_Frame_at H.out j (by omega) (by omega)
      rw [Int.toNat_natCast] at k0 k1 k2 k3 l4 g4
      replace k0 := pw_cell_below HB.out k0
      replace k1 := pw_cell_below HB.out k1
      replace k2 := pw_cell_below HB.out k2
      replace k3 := pw_cell_below HB.out k3
      have hmem := getD_mem l j (by rw [HL.out]; exact hlt) zK_link_Frame
      obtain ⟨o, ho⟩ : ∃ o, l.getD j zK_link_Frame = o := ⟨_, rfl⟩
      rw [ho] at k0 k1 k2 k3 l4 g4 hmem
      have hsm := HF.out.2 o hmem
      have HRw := Aside0.mk (reads_int g4)
      have hro : ∀ w5, Chg g wr w5 → ReadsInt w5 .u8 A4 o.Data.length o.Data := fun w5 hc => HRw.out.below (HB.out.trans (hc.below (Nat.le_of_lt lg2) HB.out.size))
      clear ho hmem g4
      go_wp2_with fail
      (with_reducible refine (take_any w.heap.size g s o.Ctl o.Dest o.Src A4 o.Data.length c4 o.Data _ HS.out hro (by omega)).mono ?_)
      rintro _ w5 ⟨v5, rfl, _, hs5, hc5⟩
      have hs5' := tk_same s o.Ctl o.Dest o.Src
      have hB5 := HB.out.trans (hc5.below (Nat.le_of_lt lg2) HB.out.size)
      have hV5 := (hc5.block w.heap.size (blk_lt HV.out) (by omega)).trans HV.out
      have HR5 := Aside0.mk (show ∃ (s : St), Aside0 (IsSt w.heap.size w5 g s) ∧ Aside0 (s.own = 1 ∧ s.master = 2) ∧ Aside0 (w5.heap[w.heap.size]? = some (.cells #[.int .i64 x.Ctl, .int .i64 x.Dest, .int .i64 x.Src, .slice A3 nx c3] 29 (0, 0))) ∧ Aside0 (Below w.heap.size w w5) from
        ⟨_, ⟨hs5⟩, ⟨hs5'.1.trans HM.out.1, hs5'.2.trans HM.out.2⟩, ⟨hV5⟩, ⟨hB5⟩⟩)
      clear hs5 hs5' hB5 hV5 hc5
      go_wp2
      go_round
      case rel => obtain ⟨s5, q1, q2, q3, q4⟩ := HR5.out; exact ⟨j + 1, s5, by omega, by go_num, q1, q2, q3, q4⟩
      case measure => simp [intOf]; omega
    · obtain rfl : j = n := by omega
      have v0 := blk_cell HV.out 0
      have v1 := blk_cell HV.out 1
      have v2 := blk_cell HV.out 2
      have v3 := blk_cell HV.out 3
      simp only [List.getElem?_toArray, List.getElem?_cons_zero, List.getElem?_cons_succ] at v0 v1 v2 v3
      obtain ⟨up, hup⟩ : ∃ b, s.ready = b := ⟨_, rfl⟩
      obtain ⟨fc, hfc⟩ : ∃ b, (s.ready && s.expect) = b := ⟨_, rfl⟩
      have hnx6 : nx ≤ 140737488355328 := by omega
      go_wp2_with fail
      (with_reducible refine (state_as _ g s up fc _ HS.out hup hfc).mono ?_)
      rintro _ w6 ⟨rfl, m6, rfl⟩
      have hs6 : IsSt w.heap.size (wr.drewN m6) g s := HS.out
      have hB6 : Below w.heap.size w (wr.drewN m6) := pw_below_drewN HB.out m6
      have hr6 : ∀ wq, Chg g (wr.drewN m6) wq → ReadsInt wq .u8 A3 nx x.Data := fun wq hc => HX.out.below (hB6.trans (hc.below (Nat.le_of_lt lg2) hB6.size))
      have hVd : (wr.drewN m6).heap[w.heap.size]? = some (.cells #[.int .i64 x.Ctl, .int .i64 x.Dest, .int .i64 x.Src, .slice A3 nx c3] 29 (0, 0)) := HV.out
      have HB6 := Aside0.mk hB6
      have HVd := Aside0.mk hVd
      clear hVd
      cases e1 : (x.Dest != 1)
      case true =>
        have htd := tk_deaf s x.Ctl x.Dest x.Src HM.out.1 HM.out.2 (.inl e1)
        cases up <;> cases fc
        all_goals
          go_wp2_with fail
          (with_reducible refine (take_no _ g s x.Ctl x.Dest x.Src A3 nx c3 x.Data _ s false htd hs6 hr6 hnx6).mono ?_)
          rintro _ w7 ⟨v7, rfl, ho7, hs7, hc7⟩
          obtain ⟨A7, c7, rfl, _⟩ := own_reads (show w7.ownsRow _ 5 1 v7 0 (nums .u8 []) from ho7)
          have hv7 := (hc7.block w.heap.size (blk_lt HVd.out) (by omega)).trans HVd.out
          have hb7 := HB6.out.trans (hc7.below (Nat.le_of_lt lg2) HB6.out.size)
          have hs7b := hs7
          go_wp2_with fail
          (with_reducible refine (state_as _ g s _ _ _ (hs7b.below (below_alloc (Below.refl _ _) _)) hup hfc).mono ?_)
          rintro _ w8 ⟨rfl, m8, hw8⟩
          have hbs : Below w7.heap.size w7 w8 := by rw [hw8]; exact pw_below_drewN (below_alloc (Below.refl _ _) _) m8
          clear hw8 hs7b ho7
          have HM7 := Aside0.mk HM.out
          have HV8 := Aside0.mk (blk_below hv7 hbs)
          have HS8 := Aside0.mk (hs7.below hbs)
          have HB8 := Aside0.mk (hb7.trans (hbs.mono hb7.size))
          clear hs7 hc7 hv7 hb7 hbs
          have v38 : w8.cell? ⟨w.heap.size, 3, none⟩ = some (.slice A3 nx c3) := blk_cell HV8.out 3
          go_wp2_with fail
          (with_reducible refine (to_lit 196 A3 nx c3 _).mono ?_)
          rintro _ w9 ⟨rfl, hb9⟩
          have hs9 := HS8.out.below hb9
          have hb9' := HB8.out.trans (hb9.mono HB8.out.size)
          have hr9 : ∀ wq, Chg g w9 wq → ReadsInt wq .u8 A3 nx x.Data := fun wq hc => HX.out.below (hb9'.trans (hc.below (Nat.le_of_lt lg2) hb9'.size))
          go_wp2_with fail
          (with_reducible refine (take_no w.heap.size g _ 196 1 2 A3 nx c3 x.Data _ _ true (tk_plain _ HM7.out.1 HM7.out.2) hs9 hr9 hnx6).mono ?_)
          rintro _ wa ⟨va, rfl, hoa, hsa, hca⟩
          have HBa := Aside0.mk (hb9'.trans (hca.below (Nat.le_of_lt lg2) hb9'.size))
          obtain ⟨Aa, ca, rfl, hRa⟩ := own_reads (show wa.ownsRow w9.heap.size 5 1 va nx (nums .u8 x.Data) by rw [← hnx2]; exact hoa)
          have HRa := Aside0.mk hRa
          have HVa := Aside0.mk ((hca.block w.heap.size (by have := hb9'.size; have := blk_lt HV8.out; have := hb9.size; omega) (by omega)).trans (blk_below HV8.out hb9))
          clear hs9 hb9' hr9 hoa hsa hca hRa hb9
          trace "last take"
          go_wp2_with fail
          (with_reducible refine (first_any _).mono ?_)
          rintro _ wc ⟨rfl, hbc⟩
          have HBc0 := Aside0.mk hbc
          have v3c : wc.cell? ⟨w.heap.size, 3, none⟩ = some (.slice A3 nx c3) := blk_cell (blk_below (blk_alloc HVa.out _) hbc) 3
          clear hbc
          go_wp2_with fail
          (with_reducible refine (bytes_same Aa A3 nx nx ca c3 x.Data _ (HRa.out.below (below_two (below_alloc (Below.refl _ _) _) HBc0.out)) (HX.out.below (HBa.out.trans ((below_two (below_alloc (Below.refl _ _) _) HBc0.out).mono HBa.out.size))) hbx).mono ?_)
          rintro _ wd ⟨rfl, rfl⟩
          go_wp2
          go_ret
          exact ⟨rfl, HBa.out.trans ((below_two (below_alloc (Below.refl _ _) _) HBc0.out).mono HBa.out.size)⟩
      case false =>
        cases e2 : (x.Src != 2)
        case true =>
          have htd := tk_deaf s x.Ctl x.Dest x.Src HM.out.1 HM.out.2 (.inr (.inl e2))
          cases up <;> cases fc
          all_goals
            go_wp2_with fail
            (with_reducible refine (take_no _ g s x.Ctl x.Dest x.Src A3 nx c3 x.Data _ s false htd hs6 hr6 hnx6).mono ?_)
            rintro _ w7 ⟨v7, rfl, ho7, hs7, hc7⟩
            obtain ⟨A7, c7, rfl, _⟩ := own_reads (show w7.ownsRow _ 5 1 v7 0 (nums .u8 []) from ho7)
            have hv7 := (hc7.block w.heap.size (blk_lt HVd.out) (by omega)).trans HVd.out
            have hb7 := HB6.out.trans (hc7.below (Nat.le_of_lt lg2) HB6.out.size)
            have hs7b := hs7
            go_wp2_with fail
            (with_reducible refine (state_as _ g s _ _ _ (hs7b.below (below_alloc (Below.refl _ _) _)) hup hfc).mono ?_)
            rintro _ w8 ⟨rfl, m8, hw8⟩
            have hbs : Below w7.heap.size w7 w8 := by rw [hw8]; exact pw_below_drewN (below_alloc (Below.refl _ _) _) m8
            clear hw8 hs7b ho7
            have HM7 := Aside0.mk HM.out
            have HV8 := Aside0.mk (blk_below hv7 hbs)
            have HS8 := Aside0.mk (hs7.below hbs)
            have HB8 := Aside0.mk (hb7.trans (hbs.mono hb7.size))
            clear hs7 hc7 hv7 hb7 hbs
            have v38 : w8.cell? ⟨w.heap.size, 3, none⟩ = some (.slice A3 nx c3) := blk_cell HV8.out 3
            go_wp2_with fail
            (with_reducible refine (to_lit 196 A3 nx c3 _).mono ?_)
            rintro _ w9 ⟨rfl, hb9⟩
            have hs9 := HS8.out.below hb9
            have hb9' := HB8.out.trans (hb9.mono HB8.out.size)
            have hr9 : ∀ wq, Chg g w9 wq → ReadsInt wq .u8 A3 nx x.Data := fun wq hc => HX.out.below (hb9'.trans (hc.below (Nat.le_of_lt lg2) hb9'.size))
            go_wp2_with fail
            (with_reducible refine (take_no w.heap.size g _ 196 1 2 A3 nx c3 x.Data _ _ true (tk_plain _ HM7.out.1 HM7.out.2) hs9 hr9 hnx6).mono ?_)
            rintro _ wa ⟨va, rfl, hoa, hsa, hca⟩
            have HBa := Aside0.mk (hb9'.trans (hca.below (Nat.le_of_lt lg2) hb9'.size))
            obtain ⟨Aa, ca, rfl, hRa⟩ := own_reads (show wa.ownsRow w9.heap.size 5 1 va nx (nums .u8 x.Data) by rw [← hnx2]; exact hoa)
            have HRa := Aside0.mk hRa
            have HVa := Aside0.mk ((hca.block w.heap.size (by have := hb9'.size; have := blk_lt HV8.out; have := hb9.size; omega) (by omega)).trans (blk_below HV8.out hb9))
            clear hs9 hb9' hr9 hoa hsa hca hRa hb9
            trace "last take"
            go_wp2_with fail
            (with_reducible refine (first_any _).mono ?_)
            rintro _ wc ⟨rfl, hbc⟩
            have HBc0 := Aside0.mk hbc
            have v3c : wc.cell? ⟨w.heap.size, 3, none⟩ = some (.slice A3 nx c3) := blk_cell (blk_below (blk_alloc HVa.out _) hbc) 3
            clear hbc
            go_wp2_with fail
            (with_reducible refine (bytes_same Aa A3 nx nx ca c3 x.Data _ (HRa.out.below (below_two (below_alloc (Below.refl _ _) _) HBc0.out)) (HX.out.below (HBa.out.trans ((below_two (below_alloc (Below.refl _ _) _) HBc0.out).mono HBa.out.size))) hbx).mono ?_)
            rintro _ wd ⟨rfl, rfl⟩
            go_wp2
            go_ret
            exact ⟨rfl, HBa.out.trans ((below_two (below_alloc (Below.refl _ _) _) HBc0.out).mono HBa.out.size)⟩
        case false =>
          cases e3 : (bits .and .i64 x.Ctl 192 != 192)
          case true =>
            have htd := tk_deaf s x.Ctl x.Dest x.Src HM.out.1 HM.out.2 (.inr (.inr e3))
            cases up <;> cases fc
            all_goals
              go_wp2_with fail
              (with_reducible refine (take_no _ g s x.Ctl x.Dest x.Src A3 nx c3 x.Data _ s false htd hs6 hr6 hnx6).mono ?_)
              rintro _ w7 ⟨v7, rfl, ho7, hs7, hc7⟩
              obtain ⟨A7, c7, rfl, _⟩ := own_reads (show w7.ownsRow _ 5 1 v7 0 (nums .u8 []) from ho7)
              have hv7 := (hc7.block w.heap.size (blk_lt HVd.out) (by omega)).trans HVd.out
              have hb7 := HB6.out.trans (hc7.below (Nat.le_of_lt lg2) HB6.out.size)
              have hs7b := hs7
              go_wp2_with fail
              (with_reducible refine (state_as _ g s _ _ _ (hs7b.below (below_alloc (Below.refl _ _) _)) hup hfc).mono ?_)
              rintro _ w8 ⟨rfl, m8, hw8⟩
              have hbs : Below w7.heap.size w7 w8 := by rw [hw8]; exact pw_below_drewN (below_alloc (Below.refl _ _) _) m8
              clear hw8 hs7b ho7
              have HM7 := Aside0.mk HM.out
              have HV8 := Aside0.mk (blk_below hv7 hbs)
              have HS8 := Aside0.mk (hs7.below hbs)
              have HB8 := Aside0.mk (hb7.trans (hbs.mono hb7.size))
              clear hs7 hc7 hv7 hb7 hbs
              have v38 : w8.cell? ⟨w.heap.size, 3, none⟩ = some (.slice A3 nx c3) := blk_cell HV8.out 3
              go_wp2_with fail
              (with_reducible refine (to_lit 196 A3 nx c3 _).mono ?_)
              rintro _ w9 ⟨rfl, hb9⟩
              have hs9 := HS8.out.below hb9
              have hb9' := HB8.out.trans (hb9.mono HB8.out.size)
              have hr9 : ∀ wq, Chg g w9 wq → ReadsInt wq .u8 A3 nx x.Data := fun wq hc => HX.out.below (hb9'.trans (hc.below (Nat.le_of_lt lg2) hb9'.size))
              go_wp2_with fail
              (with_reducible refine (take_no w.heap.size g _ 196 1 2 A3 nx c3 x.Data _ _ true (tk_plain _ HM7.out.1 HM7.out.2) hs9 hr9 hnx6).mono ?_)
              rintro _ wa ⟨va, rfl, hoa, hsa, hca⟩
              have HBa := Aside0.mk (hb9'.trans (hca.below (Nat.le_of_lt lg2) hb9'.size))
              obtain ⟨Aa, ca, rfl, hRa⟩ := own_reads (show wa.ownsRow w9.heap.size 5 1 va nx (nums .u8 x.Data) by rw [← hnx2]; exact hoa)
              have HRa := Aside0.mk hRa
              have HVa := Aside0.mk ((hca.block w.heap.size (by have := hb9'.size; have := blk_lt HV8.out; have := hb9.size; omega) (by omega)).trans (blk_below HV8.out hb9))
              clear hs9 hb9' hr9 hoa hsa hca hRa hb9
              trace "last take"
              go_wp2_with fail
              (with_reducible refine (first_any _).mono ?_)
              rintro _ wc ⟨rfl, hbc⟩
              have HBc0 := Aside0.mk hbc
              have v3c : wc.cell? ⟨w.heap.size, 3, none⟩ = some (.slice A3 nx c3) := blk_cell (blk_below (blk_alloc HVa.out _) hbc) 3
              clear hbc
              go_wp2_with fail
              (with_reducible refine (bytes_same Aa A3 nx nx ca c3 x.Data _ (HRa.out.below (below_two (below_alloc (Below.refl _ _) _) HBc0.out)) (HX.out.below (HBa.out.trans ((below_two (below_alloc (Below.refl _ _) _) HBc0.out).mono HBa.out.size))) hbx).mono ?_)
              rintro _ wd ⟨rfl, rfl⟩
              go_wp2
              go_ret
              exact ⟨rfl, HBa.out.trans ((below_two (below_alloc (Below.refl _ _) _) HBc0.out).mono HBa.out.size)⟩
          case false =>
            go_wp2_with fail
            (with_reducible refine (take_any w.heap.size g s x.Ctl x.Dest x.Src A3 nx c3 x.Data _ hs6 hr6 hnx6).mono ?_)
            rintro _ w7 ⟨v7, rfl, ho7, hs7, hc7⟩
            obtain ⟨fa, fb, fd, hF⟩ := frameV_agg s (tk s x.Ctl x.Dest x.Src).ans
            rw [hF]
            have hM7 := tk_same s x.Ctl x.Dest x.Src
            generalize (tk s x.Ctl x.Dest x.Src).ans.isSome = b1
            generalize (tk s x.Ctl x.Dest x.Src).up = b2 at ho7 ⊢
            generalize (tk s x.Ctl x.Dest x.Src).st = s7 at hs7 hM7
            have hv7 := (hc7.block w.heap.size (blk_lt HVd.out) (by omega)).trans HVd.out
            have hb7 := HB6.out.trans (hc7.below (Nat.le_of_lt lg2) HB6.out.size)
            have hs7b := hs7
            clear hF
            go_wp2_with fail
            (with_reducible refine (state_as _ g s7 _ _ _ (hs7b.below (below_alloc (Below.refl _ _) _)) rfl rfl).mono ?_)
            rintro _ w8 ⟨rfl, m8, hw8⟩
            have hbs : Below w7.heap.size w7 w8 := by rw [hw8]; exact pw_below_drewN (below_alloc (Below.refl _ _) _) m8
            clear hw8 hs7b ho7
            have HM7 := Aside0.mk (show s7.own = 1 ∧ s7.master = 2 from ⟨hM7.1.trans HM.out.1, hM7.2.trans HM.out.2⟩)
            have HV8 := Aside0.mk (blk_below hv7 hbs)
            have HS8 := Aside0.mk (hs7.below hbs)
            have HB8 := Aside0.mk (hb7.trans (hbs.mono hb7.size))
            clear hs7 hc7 hv7 hb7 hbs
            have v38 : w8.cell? ⟨w.heap.size, 3, none⟩ = some (.slice A3 nx c3) := blk_cell HV8.out 3
            go_wp2_with fail
            (with_reducible refine (to_lit 196 A3 nx c3 _).mono ?_)
            rintro _ w9 ⟨rfl, hb9⟩
            have hs9 := HS8.out.below hb9
            have hb9' := HB8.out.trans (hb9.mono HB8.out.size)
            have hr9 : ∀ wq, Chg g w9 wq → ReadsInt wq .u8 A3 nx x.Data := fun wq hc => HX.out.below (hb9'.trans (hc.below (Nat.le_of_lt lg2) hb9'.size))
            go_wp2_with fail
            (with_reducible refine (take_no w.heap.size g _ 196 1 2 A3 nx c3 x.Data _ _ true (tk_plain _ HM7.out.1 HM7.out.2) hs9 hr9 hnx6).mono ?_)
            rintro _ wa ⟨va, rfl, hoa, hsa, hca⟩
            have HBa := Aside0.mk (hb9'.trans (hca.below (Nat.le_of_lt lg2) hb9'.size))
            obtain ⟨Aa, ca, rfl, hRa⟩ := own_reads (show wa.ownsRow w9.heap.size 5 1 va nx (nums .u8 x.Data) by rw [← hnx2]; exact hoa)
            have HRa := Aside0.mk hRa
            have HVa := Aside0.mk ((hca.block w.heap.size (by have := hb9'.size; have := blk_lt HV8.out; have := hb9.size; omega) (by omega)).trans (blk_below HV8.out hb9))
            clear hs9 hb9' hr9 hoa hsa hca hRa hb9
            trace "last take"
            go_wp2_with fail
            (with_reducible refine (first_any _).mono ?_)
            rintro _ wc ⟨rfl, hbc⟩
            have HBc0 := Aside0.mk hbc
            have v3c : wc.cell? ⟨w.heap.size, 3, none⟩ = some (.slice A3 nx c3) := blk_cell (blk_below (blk_alloc HVa.out _) hbc) 3
            clear hbc
            go_wp2_with fail
            (with_reducible refine (bytes_same Aa A3 nx nx ca c3 x.Data _ (HRa.out.below (below_two (below_alloc (Below.refl _ _) _) HBc0.out)) (HX.out.below (HBa.out.trans ((below_two (below_alloc (Below.refl _ _) _) HBc0.out).mono HBa.out.size))) hbx).mono ?_)
            rintro _ wd ⟨rfl, rfl⟩
            go_wp2
            go_ret
            exact ⟨rfl, HBa.out.trans ((below_two (below_alloc (Below.refl _ _) _) HBc0.out).mono HBa.out.size)⟩
end Go.Proofs.Ytpepgblmcjgbgaa
