/- The secondary station: confirmed data is handed up once, the law. Conditions: the arguments read as data. -/
import Derived.Test.YtpepgblmcjgbgaaStI
import Derived.Test.YtpepgblmcjgbgaaStH
namespace Go.Proofs.Ytpepgblmcjgbgaa
open Go.RowKit Go.Proofs.YtpepgblmcjgbgaaW.PrintWords
set_option linter.unusedVariables false
abbrev kdL : Kd (List Int) := Kd.slice 5 (Kd.int .u8)
theorem sl_at {w : World} {A : Option Addr} {n : Nat} {xs : List (List Int)} (h : kdL.C w A n xs) (j : Nat) (hj : j < n) : ∃ ad B c, A = some ad ∧ w.cell? (ad.add j) = some (.slice B (xs.getD j []).length c) ∧ (xs.getD j []).length ≤ c ∧ (Kd.int .u8).C w B (xs.getD j []).length (xs.getD j []) := by
  obtain ⟨ad, c, e, _, hK, hc0⟩ := Kd.C_get h [] (j : Int) (by omega) (by omega)
  rw [Int.toNat_natCast] at hK hc0
  obtain ⟨B, k, rfl, hl, hC⟩ := hK
  refine ⟨ad, B, k, e, ?_, hl, hC⟩
  have := hc0 0 _ rfl
  simpa [Kd.slice] using this
theorem int_at {k : IntKind} {w : World} {A : Option Addr} {n : Nat} {xs : List Int} (h : (Kd.int k).C w A n xs) (j : Nat) (hj : j < n) : ∃ ad, A = some ad ∧ w.cell? (ad.add j) = some (.int k (xs.getD j 0)) := by
  obtain ⟨ad, c, e, _, hK, hc0⟩ := Kd.C_get h 0 (j : Int) (by omega) (by omega)
  rw [Int.toNat_natCast] at hK hc0
  refine ⟨ad, e, ?_⟩
  have := hc0 0 (.int k (xs.getD j 0)) (by rw [show c = [.int k (xs.getD j 0)] from hK]; rfl)
  simpa [Kd.int, Kd.scalar] using this
def frs (l : List (List Int)) : List Fr := l.map fun d => ⟨0, 0, 0, d⟩
theorem frs_take (l : List (List Int)) (k : Nat) (h : k < l.length) : total (frs (l.take (k + 1))) = total (frs (l.take k)) + cut1 (l.getD k []).length := by
  have : l.take (k + 1) = l.take k ++ [l.getD k []] := by
    rw [List.take_succ_eq_append_getElem h]; simp [List.getD_eq_getElem?_getD, List.getElem?_eq_getElem h]
  rw [this]; simp [frs, total_append, total]
theorem frs_le (l : List (List Int)) : total (frs l) ≤ 6001 * l.length := by have := total_le (frs l); simpa [frs] using this
theorem frs_small {l : List (List Int)} (h : total (frs l) ≤ 6000) : ∀ o ∈ l, o.length ≤ 6000 := by
  intro o ho
  obtain ⟨a, b, rfl⟩ := List.append_of_mem ho
  have e : frs (a ++ o :: b) = frs a ++ (⟨0, 0, 0, o⟩ :: frs b) := by simp [frs]
  rw [e, total_append] at h
  simp only [total] at h
  unfold cut1 at h
  split at h <;> omega
theorem memL {l : List (List Int)} {j : Nat} (h : j < l.length) : l.getD j [] ∈ l := by simp [List.getD_eq_getElem?_getD, List.getElem?_eq_getElem h]
set_option maxHeartbeats 6000000 in
set_option maxRecDepth 100000 in
theorem once_law (A : Option Addr) (n c : Nat) (l : List (List Int)) (A2 : Option Addr) (n2 c2 : Nat) (m : List Int) (w : World) (h : kdL.C w A n l) (hok : ∀ o ∈ l, Bytes o) (h2 : (Kd.int .i64).C w A2 n2 m) :
    Calls Try.prog 3 #[.slice A n c, .slice A2 n2 c2] w (fun e w' => e = .returned (.bool true) ∧ Below w.heap.size w w') := by
  have hn : n ≤ 9223372036854775807 := h.2.1
  have hn2 : n2 ≤ 9223372036854775807 := h2.2.1
  have HL := Aside0.mk (show l.length = n from h.1)
  have HOK := Aside0.mk hok
  have H := Aside0.mk h
  have H2 := Aside0.mk h2
  clear h hok h2
  go_enter Try.func3, Try.ntmps3
  go_wp2_with fail
  (with_reducible refine (first_any _).mono ?_)
  rintro _ w1 ⟨rfl, hb1⟩
  have hle1 := hb1.size
  go_wp2_with fail
  (with_reducible refine (new_any w.heap.size 1 2 _ hle1).mono ?_)
  rintro _ w2 ⟨g, rfl, hs2, hg2, hb2⟩
  have HS2 := Aside0.mk hs2
  have HB2 := Aside0.mk (below_two hb1 hb2)
  have lg2 : w.heap.size ≤ g := Nat.le_trans hle1 hg2
  have l2 := hs2.lt
  clear hs2 hb1 hb2 hle1
  go_wp2
  go_loop [6, 7] (fun t i => ∃ k : Nat, k ≤ n ∧ k ≤ 100 ∧ i = .int .i64 k ∧ t = .int .i64 (total (frs (l.take k)) : Nat)) (fun _ i => n - (intOf i).toNat)
  case atStart => exact ⟨0, Nat.zero_le _, Nat.zero_le _, rfl, rfl⟩
  case round =>
    obtain ⟨k, hk, hk2, rfl, rfl⟩ := hrel
    by_cases hlt : k < n ∧ k < 100
    · obtain ⟨hl1, hl2⟩ := hlt
      obtain ⟨ad, A3, c3, rfl, kc, hc3, _⟩ := sl_at H.out k (by omega)
      replace kc := pw_cell_below HB2.out kc
      have hT := frs_le (l.take k)
      have hT2 : (l.take k).length ≤ k := List.length_take_le _ _
      have HT := Aside0.mk (frs_take l k (by rw [HL.out]; exact hl1))
      obtain ⟨L, hLL⟩ : ∃ L, (l.getD k []).length = L := ⟨_, rfl⟩
      obtain ⟨T, hTT⟩ : ∃ T, total (frs (l.take k)) = T := ⟨_, rfl⟩
      rw [hLL] at hc3 HT kc
      rw [hTT] at hT HT ⊢
      have hTb : T ≤ 6001 * 100 := by omega
      clear hT hT2 hLL hTT
      by_cases hb : 6001 < L
      · have HE := Aside0.mk (show cut1 L = 6001 by unfold cut1; rw [if_pos hb])
        go_wp2
        all_goals
          go_round
          case rel => exact ⟨k + 1, by omega, by omega, by go_num, by rw [HT.out, HE.out]; go_num⟩
          case measure => simp [intOf]; omega
      · have HE := Aside0.mk (show cut1 L = L by unfold cut1; rw [if_neg hb])
        go_wp2
        all_goals
          go_round
          case rel => exact ⟨k + 1, by omega, by omega, by go_num, by rw [HT.out, HE.out]; go_num⟩
          case measure => simp [intOf]; omega
    · obtain ⟨T, hTT⟩ : ∃ T, total (frs (l.take k)) = T := ⟨_, rfl⟩
      rw [hTT]
      have HTT := Aside0.mk hTT
      clear hTT
      by_cases h3 : n ≤ 100 ∧ n ≤ n2 ∧ T ≤ 6000
      case neg =>
        by_cases e1 : n ≤ 100
        · by_cases e2 : n ≤ n2
          · have e3 : 6000 < T := by omega
            go_wp2_with fail
            (with_reducible refine (first_any _).mono ?_)
            rintro _ w4 ⟨rfl, hb4⟩
            have HB4 := Aside0.mk (below_two HB2.out hb4)
            clear hb4
            go_wp2
            go_ret
            exact ⟨rfl, HB4.out⟩
          · have e3 : n2 < n := by omega
            go_wp2_with fail
            (with_reducible refine (first_any _).mono ?_)
            rintro _ w4 ⟨rfl, hb4⟩
            have HB4 := Aside0.mk (below_two HB2.out hb4)
            clear hb4
            go_wp2
            go_ret
            exact ⟨rfl, HB4.out⟩
        · have e3 : 100 < n := by omega
          go_wp2_with fail
          (with_reducible refine (first_any _).mono ?_)
          rintro _ w4 ⟨rfl, hb4⟩
          have HB4 := Aside0.mk (below_two HB2.out hb4)
          clear hb4
          go_wp2
          go_ret
          exact ⟨rfl, HB4.out⟩
      obtain ⟨e1, e2, e3⟩ := h3
      obtain rfl : k = n := by omega
      have HF := Aside0.mk (show ∀ o ∈ l, o.length ≤ 6000 by
        have := HTT.out
        rw [List.take_of_length_le (by rw [HL.out]; exact Nat.le_refl _)] at this
        exact frs_small (by omega))
      go_wp2_with fail
      (with_reducible refine (to_lit 192 none 0 0 _).mono ?_)
      rintro _ w4 ⟨rfl, hb4⟩
      have hs4 := HS2.out.below hb4
      have hr4 : ∀ w0, Chg g w4 w0 → ReadsInt w0 .u8 none 0 [] := fun w0 _ => reads_nil w0 .u8 none
      have HB4 := Aside0.mk (below_two HB2.out hb4)
      have t2 : tk ⟨1, 2, false, false⟩ 192 1 2 = ⟨⟨1, 2, true, true⟩, some 0, false⟩ := by rfl
      clear hb4
      go_wp2_with fail
      (with_reducible refine (take_ans _ g _ 192 1 2 _ 0 0 [] _ _ _ _ t2 hs4 hr4 (by decide)).mono ?_)
      rintro _ w5 ⟨v5, rfl, ho5, hs5, hc5⟩
      have HS5 := Aside0.mk hs5
      have HB5 := Aside0.mk (HB4.out.trans (hc5.below lg2 HB4.out.size))
      clear hs5 hc5 ho5 hs4 hr4 t2
      go_wp2
      go_loopw [8] (fun i wr => ∃ j : Nat, j ≤ k ∧ i = .int .i64 j ∧ Aside0 (IsSt w.heap.size wr g ⟨1, 2, true, decide (j % 2 = 0)⟩) ∧ Aside0 (Below w.heap.size w wr)) (fun i _ => k - (intOf i).toNat)
      case atStart => exact ⟨0, Nat.zero_le _, rfl, HS5, HB5⟩
      case round =>
        clear HS5
        obtain ⟨j, hj, rfl, HS, HB⟩ := hrel
        by_cases hlt : j < k
        · obtain ⟨ad, A4, c4, rfl, k0, l4, g4⟩ := sl_at H.out j (by omega)
          obtain ⟨ad2, rfl, k2⟩ := int_at H2.out j (by omega)
          have hsm := HF.out _ (memL (l := l) (j := j) (by rw [HL.out]; omega))
          have hby := HOK.out _ (memL (l := l) (j := j) (by rw [HL.out]; omega))
          generalize m.getD j 0 = tm at k2
          have HRw := Aside0.mk (reads_int g4)
          generalize hO : l.getD j [] = O at k0 l4 g4 hsm hby HRw
          obtain ⟨L, hLL⟩ : ∃ L, O.length = L := ⟨_, rfl⟩
          rw [hLL] at k0 l4 hsm HRw
          have HBr := Aside0.mk HB.out
          have HLL := Aside0.mk hLL
          clear g4 hO hLL
          have K0 := Aside0.mk k0
          have K2 := Aside0.mk k2
          rcases Nat.mod_two_eq_zero_or_one j with hp | hp
          · have hpp : ((↑j : Int) % 2 == 1) = false := by rw [beq_eq_false_iff_ne]; omega
            rw [show decide (j % 2 = 0) = true from decide_eq_true hp] at HS
            have HN := Aside0.mk (show decide ((j + 1) % 2 = 0) = !true from by rw [decide_eq_false (by omega)]; rfl)
            have T0 := Aside0.mk (show tk ⟨1, 2, true, true⟩ 243 1 2 = ⟨⟨1, 2, true, !true⟩, some 0, true⟩ from by rfl)
            have T1 := Aside0.mk (show tk ⟨1, 2, true, !true⟩ 243 1 2 = ⟨⟨1, 2, true, !true⟩, some 0, false⟩ from by rfl)
            go_wp2
            go_loopw [10] (fun i wq => ∃ q : Nat, q ≤ 5 ∧ i = .int .i64 q ∧ Aside0 (IsSt w.heap.size wq g ⟨1, 2, true, match q with | 0 => true | _ + 1 => !true⟩) ∧ Aside0 (Below w.heap.size w wq)) (fun i _ => 5 - (intOf i).toNat)
            case atStart => exact ⟨0, by omega, rfl, HS, HB⟩
            case round =>
              clear k0 k2 HS
              rename_i wq _ _ _ _
              obtain ⟨q, hq, rfl, HSq, HBq⟩ := hrel
              have k0 := pw_cell_below HBq.out K0.out
              have k2 := pw_cell_below HBq.out K2.out
              by_cases g1 : tm < 1
              · by_cases g3 : q < 1
                · obtain rfl : q = 0 := by omega
                  go_wp2_with fail
                  (with_reducible refine (to_lit 243 A4 L c4 _).mono ?_)
                  rintro _ w4 ⟨rfl, hb4⟩
                  have hs4 := HSq.out.below hb4
                  have hb4' := HBq.out.trans (hb4.mono HBq.out.size)
                  have hr4 : ∀ w0, Chg g w4 w0 → ReadsInt w0 .u8 A4 L O := fun w0 hc => HRw.out.below (hb4'.trans (hc.below lg2 hb4'.size))
                  go_wp2_with fail
                  (with_reducible refine (take_ans _ g _ 243 1 2 A4 L c4 O _ _ _ _ T0.out hs4 hr4 (by omega)).mono ?_)
                  rintro _ w8 ⟨v8, rfl, ho8, hs8, hc8⟩
                  have hb8 := hb4'.trans (hc8.below lg2 hb4'.size)
                  have HS8 := Aside0.mk hs8
                  have HB8 := Aside0.mk hb8
                  obtain ⟨A8, c8, rfl, hr8⟩ := own_reads (show w8.ownsRow w4.heap.size 5 1 v8 L (nums .u8 O) by rw [← HLL.out]; exact ho8)
                  have HR8 := Aside0.mk hr8
                  have k08 : ∀ o1, (w8.alloc o1).cell? (ad.add j) = some (.slice A4 L c4) := fun o1 => pw_cell_below (hb8.trans (below_alloc (Below.refl w8.heap.size w8) o1 |>.mono hb8.size)) K0.out
                  clear hs8 hb8 hs4 hb4' hr4 hb4 ho8 hc8 hr8 k0 k2
                  go_wp2_with fail
                  (with_reducible refine (bytes_same A8 A4 L L c8 c4 O _ (HR8.out.below (below_alloc (Below.refl _ _) _)) (HRw.out.below (HB8.out.trans ((below_alloc (Below.refl _ _) _).mono HB8.out.size))) hby).mono ?_)
                  rintro _ w9 ⟨rfl, rfl⟩
                  go_wp2
                  go_round
                  case rel => exact ⟨1, by omega, by go_num, ⟨HS8.out.below (below_alloc (Below.refl _ _) _)⟩, ⟨HB8.out.trans ((below_alloc (Below.refl _ _) _).mono HB8.out.size)⟩⟩
                  case measure => first | (simp [intOf]; done) | (simp [intOf]; omega)
                · rcases q with _ | q
                  · omega
                  go_wp2
                  go_round
                  case rel => exact ⟨j + 1, by omega, by go_num, by rw [HN.out]; exact HSq, HBq⟩
                  case measure => simp [intOf]; omega
              · by_cases g2 : 5 < tm
                · by_cases g3 : q < 5
                  · rcases q with _ | q
                    · go_wp2_with fail
                      (with_reducible refine (to_lit 243 A4 L c4 _).mono ?_)
                      rintro _ w4 ⟨rfl, hb4⟩
                      have hs4 := HSq.out.below hb4
                      have hb4' := HBq.out.trans (hb4.mono HBq.out.size)
                      have hr4 : ∀ w0, Chg g w4 w0 → ReadsInt w0 .u8 A4 L O := fun w0 hc => HRw.out.below (hb4'.trans (hc.below lg2 hb4'.size))
                      go_wp2_with fail
                      (with_reducible refine (take_ans _ g _ 243 1 2 A4 L c4 O _ _ _ _ T0.out hs4 hr4 (by omega)).mono ?_)
                      rintro _ w8 ⟨v8, rfl, ho8, hs8, hc8⟩
                      have hb8 := hb4'.trans (hc8.below lg2 hb4'.size)
                      have HS8 := Aside0.mk hs8
                      have HB8 := Aside0.mk hb8
                      obtain ⟨A8, c8, rfl, hr8⟩ := own_reads (show w8.ownsRow w4.heap.size 5 1 v8 L (nums .u8 O) by rw [← HLL.out]; exact ho8)
                      have HR8 := Aside0.mk hr8
                      have k08 : ∀ o1, (w8.alloc o1).cell? (ad.add j) = some (.slice A4 L c4) := fun o1 => pw_cell_below (hb8.trans (below_alloc (Below.refl w8.heap.size w8) o1 |>.mono hb8.size)) K0.out
                      clear hs8 hb8 hs4 hb4' hr4 hb4 ho8 hc8 hr8 k0 k2
                      go_wp2_with fail
                      (with_reducible refine (bytes_same A8 A4 L L c8 c4 O _ (HR8.out.below (below_alloc (Below.refl _ _) _)) (HRw.out.below (HB8.out.trans ((below_alloc (Below.refl _ _) _).mono HB8.out.size))) hby).mono ?_)
                      rintro _ w9 ⟨rfl, rfl⟩
                      go_wp2
                      go_round
                      case rel => exact ⟨1, by omega, by go_num, ⟨HS8.out.below (below_alloc (Below.refl _ _) _)⟩, ⟨HB8.out.trans ((below_alloc (Below.refl _ _) _).mono HB8.out.size)⟩⟩
                      case measure => first | (simp [intOf]; done) | (simp [intOf]; omega)
                    · go_wp2_with fail
                      (with_reducible refine (to_lit 243 A4 L c4 _).mono ?_)
                      rintro _ w4 ⟨rfl, hb4⟩
                      have hs4 := HSq.out.below hb4
                      have hb4' := HBq.out.trans (hb4.mono HBq.out.size)
                      have hr4 : ∀ w0, Chg g w4 w0 → ReadsInt w0 .u8 A4 L O := fun w0 hc => HRw.out.below (hb4'.trans (hc.below lg2 hb4'.size))
                      go_wp2_with fail
                      (with_reducible refine (take_ans _ g _ 243 1 2 A4 L c4 O _ _ _ _ T1.out hs4 hr4 (by omega)).mono ?_)
                      rintro _ w8 ⟨v8, rfl, ho8, hs8, hc8⟩
                      have hb8 := hb4'.trans (hc8.below lg2 hb4'.size)
                      have HS8 := Aside0.mk hs8
                      have HB8 := Aside0.mk hb8
                      obtain ⟨A8, c8, rfl, _⟩ := own_reads (show w8.ownsRow w4.heap.size 5 1 v8 0 (nums .u8 []) from ho8)
                      clear hs8 hb8 hs4 hb4' hr4 hb4 ho8 hc8 k0 k2
                      go_wp2
                      go_round
                      case rel => exact ⟨q + 1 + 1, by omega, by go_num, ⟨HS8.out.below (below_alloc (Below.refl _ _) _)⟩, ⟨HB8.out.trans ((below_alloc (Below.refl _ _) _).mono HB8.out.size)⟩⟩
                      case measure => first | (simp [intOf]; done) | (simp [intOf]; omega)
                  · rcases q with _ | q
                    · omega
                    go_wp2
                    go_round
                    case rel => exact ⟨j + 1, by omega, by go_num, by rw [HN.out]; exact HSq, HBq⟩
                    case measure => simp [intOf]; omega
                · by_cases g3 : (q : Int) < tm
                  · rcases q with _ | q
                    · go_wp2_with fail
                      (with_reducible refine (to_lit 243 A4 L c4 _).mono ?_)
                      rintro _ w4 ⟨rfl, hb4⟩
                      have hs4 := HSq.out.below hb4
                      have hb4' := HBq.out.trans (hb4.mono HBq.out.size)
                      have hr4 : ∀ w0, Chg g w4 w0 → ReadsInt w0 .u8 A4 L O := fun w0 hc => HRw.out.below (hb4'.trans (hc.below lg2 hb4'.size))
                      go_wp2_with fail
                      (with_reducible refine (take_ans _ g _ 243 1 2 A4 L c4 O _ _ _ _ T0.out hs4 hr4 (by omega)).mono ?_)
                      rintro _ w8 ⟨v8, rfl, ho8, hs8, hc8⟩
                      have hb8 := hb4'.trans (hc8.below lg2 hb4'.size)
                      have HS8 := Aside0.mk hs8
                      have HB8 := Aside0.mk hb8
                      obtain ⟨A8, c8, rfl, hr8⟩ := own_reads (show w8.ownsRow w4.heap.size 5 1 v8 L (nums .u8 O) by rw [← HLL.out]; exact ho8)
                      have HR8 := Aside0.mk hr8
                      have k08 : ∀ o1, (w8.alloc o1).cell? (ad.add j) = some (.slice A4 L c4) := fun o1 => pw_cell_below (hb8.trans (below_alloc (Below.refl w8.heap.size w8) o1 |>.mono hb8.size)) K0.out
                      clear hs8 hb8 hs4 hb4' hr4 hb4 ho8 hc8 hr8 k0 k2
                      go_wp2_with fail
                      (with_reducible refine (bytes_same A8 A4 L L c8 c4 O _ (HR8.out.below (below_alloc (Below.refl _ _) _)) (HRw.out.below (HB8.out.trans ((below_alloc (Below.refl _ _) _).mono HB8.out.size))) hby).mono ?_)
                      rintro _ w9 ⟨rfl, rfl⟩
                      go_wp2
                      go_round
                      case rel => exact ⟨1, by omega, by go_num, ⟨HS8.out.below (below_alloc (Below.refl _ _) _)⟩, ⟨HB8.out.trans ((below_alloc (Below.refl _ _) _).mono HB8.out.size)⟩⟩
                      case measure => first | (simp [intOf]; done) | (simp [intOf]; omega)
                    · go_wp2_with fail
                      (with_reducible refine (to_lit 243 A4 L c4 _).mono ?_)
                      rintro _ w4 ⟨rfl, hb4⟩
                      have hs4 := HSq.out.below hb4
                      have hb4' := HBq.out.trans (hb4.mono HBq.out.size)
                      have hr4 : ∀ w0, Chg g w4 w0 → ReadsInt w0 .u8 A4 L O := fun w0 hc => HRw.out.below (hb4'.trans (hc.below lg2 hb4'.size))
                      go_wp2_with fail
                      (with_reducible refine (take_ans _ g _ 243 1 2 A4 L c4 O _ _ _ _ T1.out hs4 hr4 (by omega)).mono ?_)
                      rintro _ w8 ⟨v8, rfl, ho8, hs8, hc8⟩
                      have hb8 := hb4'.trans (hc8.below lg2 hb4'.size)
                      have HS8 := Aside0.mk hs8
                      have HB8 := Aside0.mk hb8
                      obtain ⟨A8, c8, rfl, _⟩ := own_reads (show w8.ownsRow w4.heap.size 5 1 v8 0 (nums .u8 []) from ho8)
                      clear hs8 hb8 hs4 hb4' hr4 hb4 ho8 hc8 k0 k2
                      go_wp2
                      go_round
                      case rel => exact ⟨q + 1 + 1, by omega, by go_num, ⟨HS8.out.below (below_alloc (Below.refl _ _) _)⟩, ⟨HB8.out.trans ((below_alloc (Below.refl _ _) _).mono HB8.out.size)⟩⟩
                      case measure => first | (simp [intOf]; done) | (simp [intOf]; omega)
                  · rcases q with _ | q
                    · omega
                    go_wp2
                    go_round
                    case rel => exact ⟨j + 1, by omega, by go_num, by rw [HN.out]; exact HSq, HBq⟩
                    case measure => simp [intOf]; omega
          · have hpp : ((↑j : Int) % 2 == 1) = true := by rw [beq_iff_eq]; omega
            rw [show decide (j % 2 = 0) = false from decide_eq_false (by omega)] at HS
            have HN := Aside0.mk (show decide ((j + 1) % 2 = 0) = !false from by rw [decide_eq_true (by omega)]; rfl)
            have T0 := Aside0.mk (show tk ⟨1, 2, true, false⟩ 211 1 2 = ⟨⟨1, 2, true, !false⟩, some 0, true⟩ from by rfl)
            have T1 := Aside0.mk (show tk ⟨1, 2, true, !false⟩ 211 1 2 = ⟨⟨1, 2, true, !false⟩, some 0, false⟩ from by rfl)
            go_wp2
            go_loopw [10] (fun i wq => ∃ q : Nat, q ≤ 5 ∧ i = .int .i64 q ∧ Aside0 (IsSt w.heap.size wq g ⟨1, 2, true, match q with | 0 => false | _ + 1 => !false⟩) ∧ Aside0 (Below w.heap.size w wq)) (fun i _ => 5 - (intOf i).toNat)
            case atStart => exact ⟨0, by omega, rfl, HS, HB⟩
            case round =>
              clear k0 k2 HS
              rename_i wq _ _ _ _
              obtain ⟨q, hq, rfl, HSq, HBq⟩ := hrel
              have k0 := pw_cell_below HBq.out K0.out
              have k2 := pw_cell_below HBq.out K2.out
              by_cases g1 : tm < 1
              · by_cases g3 : q < 1
                · obtain rfl : q = 0 := by omega
                  go_wp2_with fail
                  (with_reducible refine (to_lit 211 A4 L c4 _).mono ?_)
                  rintro _ w4 ⟨rfl, hb4⟩
                  have hs4 := HSq.out.below hb4
                  have hb4' := HBq.out.trans (hb4.mono HBq.out.size)
                  have hr4 : ∀ w0, Chg g w4 w0 → ReadsInt w0 .u8 A4 L O := fun w0 hc => HRw.out.below (hb4'.trans (hc.below lg2 hb4'.size))
                  go_wp2_with fail
                  (with_reducible refine (take_ans _ g _ 211 1 2 A4 L c4 O _ _ _ _ T0.out hs4 hr4 (by omega)).mono ?_)
                  rintro _ w8 ⟨v8, rfl, ho8, hs8, hc8⟩
                  have hb8 := hb4'.trans (hc8.below lg2 hb4'.size)
                  have HS8 := Aside0.mk hs8
                  have HB8 := Aside0.mk hb8
                  obtain ⟨A8, c8, rfl, hr8⟩ := own_reads (show w8.ownsRow w4.heap.size 5 1 v8 L (nums .u8 O) by rw [← HLL.out]; exact ho8)
                  have HR8 := Aside0.mk hr8
                  have k08 : ∀ o1, (w8.alloc o1).cell? (ad.add j) = some (.slice A4 L c4) := fun o1 => pw_cell_below (hb8.trans (below_alloc (Below.refl w8.heap.size w8) o1 |>.mono hb8.size)) K0.out
                  clear hs8 hb8 hs4 hb4' hr4 hb4 ho8 hc8 hr8 k0 k2
                  go_wp2_with fail
                  (with_reducible refine (bytes_same A8 A4 L L c8 c4 O _ (HR8.out.below (below_alloc (Below.refl _ _) _)) (HRw.out.below (HB8.out.trans ((below_alloc (Below.refl _ _) _).mono HB8.out.size))) hby).mono ?_)
                  rintro _ w9 ⟨rfl, rfl⟩
                  go_wp2
                  go_round
                  case rel => exact ⟨1, by omega, by go_num, ⟨HS8.out.below (below_alloc (Below.refl _ _) _)⟩, ⟨HB8.out.trans ((below_alloc (Below.refl _ _) _).mono HB8.out.size)⟩⟩
                  case measure => first | (simp [intOf]; done) | (simp [intOf]; omega)
                · rcases q with _ | q
                  · omega
                  go_wp2
                  go_round
                  case rel => exact ⟨j + 1, by omega, by go_num, by rw [HN.out]; exact HSq, HBq⟩
                  case measure => simp [intOf]; omega
              · by_cases g2 : 5 < tm
                · by_cases g3 : q < 5
                  · rcases q with _ | q
                    · go_wp2_with fail
                      (with_reducible refine (to_lit 211 A4 L c4 _).mono ?_)
                      rintro _ w4 ⟨rfl, hb4⟩
                      have hs4 := HSq.out.below hb4
                      have hb4' := HBq.out.trans (hb4.mono HBq.out.size)
                      have hr4 : ∀ w0, Chg g w4 w0 → ReadsInt w0 .u8 A4 L O := fun w0 hc => HRw.out.below (hb4'.trans (hc.below lg2 hb4'.size))
                      go_wp2_with fail
                      (with_reducible refine (take_ans _ g _ 211 1 2 A4 L c4 O _ _ _ _ T0.out hs4 hr4 (by omega)).mono ?_)
                      rintro _ w8 ⟨v8, rfl, ho8, hs8, hc8⟩
                      have hb8 := hb4'.trans (hc8.below lg2 hb4'.size)
                      have HS8 := Aside0.mk hs8
                      have HB8 := Aside0.mk hb8
                      obtain ⟨A8, c8, rfl, hr8⟩ := own_reads (show w8.ownsRow w4.heap.size 5 1 v8 L (nums .u8 O) by rw [← HLL.out]; exact ho8)
                      have HR8 := Aside0.mk hr8
                      have k08 : ∀ o1, (w8.alloc o1).cell? (ad.add j) = some (.slice A4 L c4) := fun o1 => pw_cell_below (hb8.trans (below_alloc (Below.refl w8.heap.size w8) o1 |>.mono hb8.size)) K0.out
                      clear hs8 hb8 hs4 hb4' hr4 hb4 ho8 hc8 hr8 k0 k2
                      go_wp2_with fail
                      (with_reducible refine (bytes_same A8 A4 L L c8 c4 O _ (HR8.out.below (below_alloc (Below.refl _ _) _)) (HRw.out.below (HB8.out.trans ((below_alloc (Below.refl _ _) _).mono HB8.out.size))) hby).mono ?_)
                      rintro _ w9 ⟨rfl, rfl⟩
                      go_wp2
                      go_round
                      case rel => exact ⟨1, by omega, by go_num, ⟨HS8.out.below (below_alloc (Below.refl _ _) _)⟩, ⟨HB8.out.trans ((below_alloc (Below.refl _ _) _).mono HB8.out.size)⟩⟩
                      case measure => first | (simp [intOf]; done) | (simp [intOf]; omega)
                    · go_wp2_with fail
                      (with_reducible refine (to_lit 211 A4 L c4 _).mono ?_)
                      rintro _ w4 ⟨rfl, hb4⟩
                      have hs4 := HSq.out.below hb4
                      have hb4' := HBq.out.trans (hb4.mono HBq.out.size)
                      have hr4 : ∀ w0, Chg g w4 w0 → ReadsInt w0 .u8 A4 L O := fun w0 hc => HRw.out.below (hb4'.trans (hc.below lg2 hb4'.size))
                      go_wp2_with fail
                      (with_reducible refine (take_ans _ g _ 211 1 2 A4 L c4 O _ _ _ _ T1.out hs4 hr4 (by omega)).mono ?_)
                      rintro _ w8 ⟨v8, rfl, ho8, hs8, hc8⟩
                      have hb8 := hb4'.trans (hc8.below lg2 hb4'.size)
                      have HS8 := Aside0.mk hs8
                      have HB8 := Aside0.mk hb8
                      obtain ⟨A8, c8, rfl, _⟩ := own_reads (show w8.ownsRow w4.heap.size 5 1 v8 0 (nums .u8 []) from ho8)
                      clear hs8 hb8 hs4 hb4' hr4 hb4 ho8 hc8 k0 k2
                      go_wp2
                      go_round
                      case rel => exact ⟨q + 1 + 1, by omega, by go_num, ⟨HS8.out.below (below_alloc (Below.refl _ _) _)⟩, ⟨HB8.out.trans ((below_alloc (Below.refl _ _) _).mono HB8.out.size)⟩⟩
                      case measure => first | (simp [intOf]; done) | (simp [intOf]; omega)
                  · rcases q with _ | q
                    · omega
                    go_wp2
                    go_round
                    case rel => exact ⟨j + 1, by omega, by go_num, by rw [HN.out]; exact HSq, HBq⟩
                    case measure => simp [intOf]; omega
                · by_cases g3 : (q : Int) < tm
                  · rcases q with _ | q
                    · go_wp2_with fail
                      (with_reducible refine (to_lit 211 A4 L c4 _).mono ?_)
                      rintro _ w4 ⟨rfl, hb4⟩
                      have hs4 := HSq.out.below hb4
                      have hb4' := HBq.out.trans (hb4.mono HBq.out.size)
                      have hr4 : ∀ w0, Chg g w4 w0 → ReadsInt w0 .u8 A4 L O := fun w0 hc => HRw.out.below (hb4'.trans (hc.below lg2 hb4'.size))
                      go_wp2_with fail
                      (with_reducible refine (take_ans _ g _ 211 1 2 A4 L c4 O _ _ _ _ T0.out hs4 hr4 (by omega)).mono ?_)
                      rintro _ w8 ⟨v8, rfl, ho8, hs8, hc8⟩
                      have hb8 := hb4'.trans (hc8.below lg2 hb4'.size)
                      have HS8 := Aside0.mk hs8
                      have HB8 := Aside0.mk hb8
                      obtain ⟨A8, c8, rfl, hr8⟩ := own_reads (show w8.ownsRow w4.heap.size 5 1 v8 L (nums .u8 O) by rw [← HLL.out]; exact ho8)
                      have HR8 := Aside0.mk hr8
                      have k08 : ∀ o1, (w8.alloc o1).cell? (ad.add j) = some (.slice A4 L c4) := fun o1 => pw_cell_below (hb8.trans (below_alloc (Below.refl w8.heap.size w8) o1 |>.mono hb8.size)) K0.out
                      clear hs8 hb8 hs4 hb4' hr4 hb4 ho8 hc8 hr8 k0 k2
                      go_wp2_with fail
                      (with_reducible refine (bytes_same A8 A4 L L c8 c4 O _ (HR8.out.below (below_alloc (Below.refl _ _) _)) (HRw.out.below (HB8.out.trans ((below_alloc (Below.refl _ _) _).mono HB8.out.size))) hby).mono ?_)
                      rintro _ w9 ⟨rfl, rfl⟩
                      go_wp2
                      go_round
                      case rel => exact ⟨1, by omega, by go_num, ⟨HS8.out.below (below_alloc (Below.refl _ _) _)⟩, ⟨HB8.out.trans ((below_alloc (Below.refl _ _) _).mono HB8.out.size)⟩⟩
                      case measure => first | (simp [intOf]; done) | (simp [intOf]; omega)
                    · go_wp2_with fail
                      (with_reducible refine (to_lit 211 A4 L c4 _).mono ?_)
                      rintro _ w4 ⟨rfl, hb4⟩
                      have hs4 := HSq.out.below hb4
                      have hb4' := HBq.out.trans (hb4.mono HBq.out.size)
                      have hr4 : ∀ w0, Chg g w4 w0 → ReadsInt w0 .u8 A4 L O := fun w0 hc => HRw.out.below (hb4'.trans (hc.below lg2 hb4'.size))
                      go_wp2_with fail
                      (with_reducible refine (take_ans _ g _ 211 1 2 A4 L c4 O _ _ _ _ T1.out hs4 hr4 (by omega)).mono ?_)
                      rintro _ w8 ⟨v8, rfl, ho8, hs8, hc8⟩
                      have hb8 := hb4'.trans (hc8.below lg2 hb4'.size)
                      have HS8 := Aside0.mk hs8
                      have HB8 := Aside0.mk hb8
                      obtain ⟨A8, c8, rfl, _⟩ := own_reads (show w8.ownsRow w4.heap.size 5 1 v8 0 (nums .u8 []) from ho8)
                      clear hs8 hb8 hs4 hb4' hr4 hb4 ho8 hc8 k0 k2
                      go_wp2
                      go_round
                      case rel => exact ⟨q + 1 + 1, by omega, by go_num, ⟨HS8.out.below (below_alloc (Below.refl _ _) _)⟩, ⟨HB8.out.trans ((below_alloc (Below.refl _ _) _).mono HB8.out.size)⟩⟩
                      case measure => first | (simp [intOf]; done) | (simp [intOf]; omega)
                  · rcases q with _ | q
                    · omega
                    go_wp2
                    go_round
                    case rel => exact ⟨j + 1, by omega, by go_num, by rw [HN.out]; exact HSq, HBq⟩
                    case measure => simp [intOf]; omega
        · obtain rfl : j = k := by omega
          go_wp2_with fail
          (with_reducible refine (first_any _).mono ?_)
          rintro _ w7 ⟨rfl, hb7⟩
          have HB7 := Aside0.mk (below_two HB.out hb7)
          clear hb7
          go_wp2
          go_ret
          exact ⟨rfl, HB7.out⟩
end Go.Proofs.Ytpepgblmcjgbgaa
