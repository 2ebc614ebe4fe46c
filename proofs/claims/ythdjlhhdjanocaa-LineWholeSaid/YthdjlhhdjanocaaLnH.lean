/- The line that fails: in how many bits two frames differ. Conditions: bytes are bytes. -/
import Derived.Test.YthdjlhhdjanocaaLnG
namespace Go.Proofs.Ythdjlhhdjanocaa
open Go.RowKit Go.Proofs.YthdjlhhdjanocaaW.PrintWords
set_option linter.unusedVariables false
def pop (d : Int) : Nat → Int
  | 0 => 0
  | k + 1 => pop d k + d / 2 ^ k % 2
def ham (a b : List Int) : Nat → Int
  | 0 => 0
  | i + 1 => ham a b i + pop (bits .xor .u8 (a.getD i 0) (b.getD i 0)) 8
theorem pop_range (d : Int) (k : Nat) : 0 ≤ pop d k ∧ pop d k ≤ k := by
  induction k with
  | zero => simp [pop]
  | succ k ih => simp only [pop]; omega
theorem ham_range (a b : List Int) (i : Nat) : 0 ≤ ham a b i ∧ ham a b i ≤ 8 * i := by
  induction i with
  | zero => simp [ham]
  | succ i ih =>
    have h := pop_range (bits .xor .u8 (a.getD i 0) (b.getD i 0)) 8
    simp only [ham]; omega
theorem int_at {k : IntKind} {w : World} {A : Option Addr} {n : Nat} {xs : List Int} (h : ReadsInt w k A n xs) (j : Nat) (hj : j < n) : ∃ ad, A = some ad ∧ w.cell? (ad.add j) = some (.int k (xs.getD j 0)) := by
  obtain ⟨_, _, h3⟩ := h
  obtain ⟨ad, e, hc⟩ := h3 (by omega)
  exact ⟨ad, e, hc j hj⟩
theorem and_one_all : ∀ x : Fin 256, bits .and .u8 ((x.val : Nat) : Int) 1 = ((x.val : Nat) : Int) % 2 := by decide +kernel
theorem and_one (x : Int) (h0 : 0 ≤ x) (h1 : x ≤ 255) : bits .and .u8 x 1 = x % 2 := by
  have h := and_one_all ⟨x.toNat, by omega⟩
  have e : ((x.toNat : Nat) : Int) = x := by omega
  simpa [e] using h
theorem wrap64_id {x : Int} (h0 : -9223372036854775808 ≤ x) (h1 : x ≤ 9223372036854775807) : wrap64 x = x := by
  unfold wrap64; omega
set_option maxHeartbeats 2000000 in
set_option maxRecDepth 100000 in
theorem bits_any' (A B : Option Addr) (n m c d : Nat) (a b : List Int) (w : World) (ha : ReadsInt w .u8 A n a) (hb : ReadsInt w .u8 B m b) (hn : n ≤ 1000000) :
    Calls Try.prog 13 #[.slice A n c, .slice B m d] w (fun e w' => e = .returned (.int .i64 (if n = m then ham a b n else 99)) ∧ ∃ q, w' = w.drewN q) := by
  have HA := Aside0.mk ha
  have HB := Aside0.mk hb
  clear ha hb
  by_cases hnm : n = m
  · subst hnm
    rw [if_pos rfl]
    go_enter Try.func13, Try.ntmps13
    have hnm : n ≤ 9223372036854775807 := by omega
    go_wp2
    go_loopw [5, 6] (fun t i wr => ∃ j m : Nat, j ≤ n ∧ i = .int .i64 j ∧ t = .int .i64 (ham a b j) ∧ wr = w.drewN m) (fun _ i _ => n - (intOf i).toNat)
    case atStart => exact ⟨0, 0, Nat.zero_le _, rfl, rfl, rfl⟩
    case round =>
      obtain ⟨j, m, hj, rfl, rfl, hwr⟩ := hrel
      have HWr := Aside0.mk hwr
      by_cases hlt : j < n
      · obtain ⟨ad, rfl, k1⟩ := int_at HA.out j hlt
        obtain ⟨ad', rfl, k2⟩ := int_at HB.out j hlt
        replace k1 : wr.cell? (ad.add j) = some (.int .u8 (a.getD j 0)) := by rw [hwr]; exact k1
        replace k2 : wr.cell? (ad'.add j) = some (.int .u8 (b.getD j 0)) := by rw [hwr]; exact k2
        have HH := ham_range a b j
        have HN := Aside0.mk (show ham a b (j + 1) = ham a b j + pop (bits .xor .u8 (a.getD j 0) (b.getD j 0)) 8 from rfl)
        generalize a.getD j 0 = x at k1 HN
        generalize b.getD j 0 = y at k2 HN
        generalize ham a b j = Hj at HH HN ⊢
        clear hwr
        go_wp2
        go_quiet (fail)
        have hD1 := bits_lo_u8 .xor x y
        have hD2 := bits_hi_u8 .xor x y
        generalize bits .xor .u8 x y = D at hD1 hD2 HN ⊢
        go_wp2
        go_loopw [5, 8] (fun t i wq => ∃ k : Nat, k ≤ 8 ∧ i = .int .i64 k ∧ t = .int .i64 (Hj + pop D k) ∧ wq = wr.drewN nq) (fun _ i _ => 8 - (intOf i).toNat)
        case atStart => exact ⟨0, by omega, rfl, by simp [pop], rfl⟩
        case round =>
          obtain ⟨k, hk, rfl, rfl, hwq⟩ := hrel
          have HWq := Aside0.mk hwq
          clear hwq
          by_cases hlt2 : k < 8
          · have hP := pop_range D k
            have HP := Aside0.mk (show pop D (k + 1) = pop D k + D / 2 ^ k % 2 from rfl)
            generalize pop D k = P at hP HP ⊢
            have hdv : 0 ≤ D / 2 ^ k := Int.ediv_nonneg hD1 (Int.le_of_lt (Int.pow_pos (by omega)))
            have hdu : D / 2 ^ k ≤ 255 := Int.le_trans (Int.ediv_le_self _ hD1) hD2
            have HA1 := Aside0.mk (and_one (D / 2 ^ k) hdv hdu)
            have hj2 : j ≤ 1000000 := by omega
            go_wp2
            go_round
            case rel =>
              refine ⟨k + 1, by omega, by go_num, ?_, HWq.out⟩
              rw [HP.out, HA1.out]
              refine congrArg _ ?_
              generalize D / 2 ^ k = z at hdv hdu
              have h1 : wrap64 (z % 2) = z % 2 := wrap64_id (by omega) (by omega)
              rw [h1, wrap64_id (by omega) (by omega)]
              omega
            case measure => simp [intOf]; omega
          · obtain rfl : k = 8 := by omega
            go_wp2
            go_round
            case rel => exact ⟨j + 1, m + nq, by omega, by go_num, by rw [HN.out], by rw [HWq.out, HWr.out]; simp⟩
            case measure => simp [intOf]; omega
      · obtain rfl : j = n := by omega
        clear hwr
        go_wp2
        go_ret
        exact ⟨rfl, m, HWr.out⟩
  · rw [if_neg hnm]
    have e : ((n : Int) != (m : Int)) = true := by rw [bne_iff_ne]; omega
    go_enter Try.func13, Try.ntmps13
    go_wp2
    go_ret
    exact ⟨rfl, 0, rfl⟩
end Go.Proofs.Ythdjlhhdjanocaa
