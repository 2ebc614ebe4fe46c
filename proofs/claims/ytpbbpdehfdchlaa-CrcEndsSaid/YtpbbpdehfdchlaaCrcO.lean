/- More laws of the check sums over the contracts: any beginning; texts together; steps together. Conditions: the arguments read as data. -/
import Derived.Test.YtpbbpdehfdchlaaCrcM
import Derived.Deep.QuietTactic
import Derived.BigQuiet
import Derived.Deep.RegionHeld3
import Derived.RegionTactic
namespace Go.Proofs.Ytpbbpdehfdchlaa
open Go.RowKit CrcMath Go.Proofs.YtpbbpdehfdchlaaW.PrintWords
set_option linter.unusedVariables false

theorem xor_twice {g : Int} (h : 0 ≤ g ∧ g < 65536) : bits .xor .i64 (bits .xor .i64 g 65535) 65535 = g := by
  obtain ⟨q, rfl⟩ := Int.eq_ofNat_of_zero_le h.1
  have e : (65535 : Int) = ((65535 : Nat) : Int) := rfl
  have hq : q < 65536 := by omega
  rw [e, xor64 hq (by decide), xor64 (xor_lt16 hq (by decide)) (by decide), Nat.xor_assoc, Nat.xor_self, Nat.xor_zero]
theorem quiet_same {P : Program} {f : FuncId} {args : Array Value} {w : World} {n : Nat} {v : Value}
    (h : Calls P f args (w.drewN n) fun e w' => e = .returned v ∧ w.drewN n = w') : Calls P f args (w.drewN n) fun e w'' => e = .returned v ∧ ∃ m, w'' = w.drewN m :=
  h.mono fun _ _ ⟨he, hm⟩ => ⟨he, n, hm.symm⟩

set_option maxHeartbeats 2000000 in
set_option maxRecDepth 100000 in
theorem crcGoes_walk (A : Option Addr) (n c : Nat) (l : List Int) (cut : Int) (w : World) (HR : ReadsInt w .u8 A n l) (hb : Bytes l) (hnc : n ≤ c) (hc : c ≤ 9223372036854775807) :
    Calls Try.prog 9 #[.slice A n c, .int .i64 cut] w fun e w' => e = .returned (.bool true) ∧ Below w.heap.size w w' := by
  have hm := HR.2.1
  have HL := Aside0.mk HR.1
  have HRw := Aside0.mk HR
  have HX := Aside0.mk hb
  clear HR hb
  by_cases hgo : n ≤ 20000 ∧ 0 ≤ cut ∧ cut ≤ n
  · obtain ⟨hlen, hc0, hc1⟩ := hgo
    obtain ⟨m, rfl⟩ := Int.eq_ofNat_of_zero_le hc0
    have hmn : m ≤ n := by omega
    have HT := Aside0.mk (fun (W : World) (hB : Below w.heap.size w W) => (HRw.out.below hB).take_ m hmn)
    have HXt := Aside0.mk (show Bytes (l.take m) from fun x hx => HX.out x (List.mem_of_mem_take hx))
    have hmc : (m : Int) ≤ (c : Int) := by omega
    have hm0 : (0 : Int) ≤ (m : Int) := by omega
    have hd1 : decide ((20000 : Int) < (n : Int)) = false := by simp; omega
    have hd2 : decide ((m : Int) < 0) = false := by simp
    have hd3 : decide (n < m) = false := by simp; omega
    go_enter Try.func9, Try.ntmps9
    go_wp2_with fail
    (with_reducible refine (first_any _).mono ?_)
    rintro e w1 ⟨rfl, hb1⟩
    have HB1 := Aside0.mk hb1
    clear hb1
    go_wp2_with fail
    go_quiet (first | (go_at_call 13; exact quiet_same (modbus_any _ _ _ _ _ (HT.out _ (pw_below_drewN HB1.out _)) HXt.out)) | (go_at_call 15; exact quiet_same (dnp_any _ _ _ _ _ (HT.out _ (pw_below_drewN HB1.out _)) HXt.out)))
    obtain ⟨w2, hw2⟩ : ∃ w2, w1.drewN nq = w2 := ⟨_, rfl⟩
    have HB2 := Aside0.mk (show Below w.heap.size w w2 by rw [← hw2]; exact pw_below_drewN HB1.out nq)
    rw [hw2]
    clear hw2 HT HXt hmc hm0 HB1
    have HRr := HRw.out.below HB2.out
    have HE := Aside0.mk (xor_twice (goi_range 42684 0 (l.take m) (fun x hx => HX.out x (List.mem_of_mem_take hx)) (by decide) (by decide)))
    go_wp2
    rw [HE.out]
    go_loop [5, 6, 7] (fun t d i => ∃ k : Nat, m ≤ k ∧ k ≤ n ∧ i = .int .i64 k ∧ t = .int .i64 (goi 40961 65535 (l.take k)) ∧ d = .int .i64 (goi 42684 0 (l.take k))) (fun _ _ i => n - (intOf i).toNat)
    case atStart => exact ⟨m, Nat.le_refl _, hmn, rfl, rfl, rfl⟩
    case round =>
      obtain ⟨k, hmk, hk, rfl, rfl, rfl⟩ := hrel
      by_cases hlt : k < n
      · obtain ⟨ad, rfl, hcl⟩ := HRr.at_ k (by omega) (by omega)
        have hc' : w2.cell? (ad.add k) = some (.int .u8 (l.getD k 0)) := hcl
        have hbd := HX.out (l.getD k 0) (getD_mem l k (by rw [HL.out]; exact hlt) 0)
        obtain ⟨x, hx⟩ : ∃ x, l.getD k 0 = x := ⟨_, rfl⟩
        have HT := Aside0.mk (show ∀ p s, goi p s (l.take (k + 1)) = sti p (goi p s (l.take k)) x from fun p s => by rw [take_next l k (by rw [HL.out]; exact hlt) 0, goi_snoc, hx])
        rw [hx] at hc' hbd
        clear hcl hx
        obtain ⟨hb0, hb1⟩ := hbd
        go_wp2_with fail
        (with_reducible refine (step_any _ _ _ _ hb0 hb1).mono ?_)
        rintro e w' ⟨rfl, rfl⟩
        go_wp2_with fail
        (with_reducible refine (step_any _ _ _ _ hb0 hb1).mono ?_)
        rintro e w' ⟨rfl, rfl⟩
        go_wp2
        go_round
        case rel => exact ⟨k + 1, by omega, by omega, by go_num, by rw [HT.out], by rw [HT.out]⟩
        case measure => simp [intOf]; omega
      · have HTk := Aside0.mk (List.take_of_length_le (l := l) (i := k) (by rw [HL.out]; omega))
        rw [HTk.out]
        go_wp2_with fail
        (with_reducible refine (first_any _).mono ?_)
        rintro e w3 ⟨rfl, hb3⟩
        have HB3 := Aside0.mk (below_two HB2.out hb3)
        have HR3 := HRw.out.below HB3.out
        clear hb3
        go_wp2_with fail
        (with_reducible refine (modbus_any _ _ _ _ _ HR3 HX.out).mono ?_)
        rintro e w' ⟨rfl, rfl⟩
        go_wp2_with fail
        (with_reducible refine (dnp_any _ _ _ _ _ HR3 HX.out).mono ?_)
        rintro e w' ⟨rfl, rfl⟩
        go_wp2
        go_ret
        exact ⟨by simp, HB3.out⟩
  · by_cases hlen : n ≤ 20000
    · by_cases hc0 : cut < 0
      · clear hgo
        go_enter Try.func9, Try.ntmps9
        go_wp2_with fail
        (with_reducible refine (first_any _).mono ?_)
        rintro e w1 ⟨rfl, hb1⟩
        have HB1 := Aside0.mk hb1
        clear hb1
        go_wp2_with fail
        (with_reducible refine (first_any _).mono ?_)
        rintro e w2 ⟨rfl, hb2⟩
        have HB2 := Aside0.mk (below_two HB1.out hb2)
        clear hb2
        go_wp2
        go_ret
        exact ⟨rfl, HB2.out⟩
      · have hc1 : (n : Int) < cut := by omega
        have hc2 : 0 ≤ cut := by omega
        clear hgo hc0
        go_enter Try.func9, Try.ntmps9
        go_wp2_with fail
        (with_reducible refine (first_any _).mono ?_)
        rintro e w1 ⟨rfl, hb1⟩
        have HB1 := Aside0.mk hb1
        clear hb1
        go_wp2_with fail
        (with_reducible refine (first_any _).mono ?_)
        rintro e w2 ⟨rfl, hb2⟩
        have HB2 := Aside0.mk (below_two HB1.out hb2)
        clear hb2
        go_wp2
        go_ret
        exact ⟨rfl, HB2.out⟩
    · clear hgo
      go_enter Try.func9, Try.ntmps9
      go_wp2_with fail
      (with_reducible refine (first_any _).mono ?_)
      rintro e w1 ⟨rfl, hb1⟩
      have HB1 := Aside0.mk hb1
      clear hb1
      go_wp2_with fail
      (with_reducible refine (first_any _).mono ?_)
      rintro e w2 ⟨rfl, hb2⟩
      have HB2 := Aside0.mk (below_two HB1.out hb2)
      clear hb2
      go_wp2
      go_ret
      exact ⟨rfl, HB2.out⟩
end Go.Proofs.Ytpbbpdehfdchlaa
