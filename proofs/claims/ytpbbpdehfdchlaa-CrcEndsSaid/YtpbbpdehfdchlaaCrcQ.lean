/- The laws of steps over the contracts: a step and its table; steps together. Conditions: the arguments read as data. -/
import Derived.Test.YtpbbpdehfdchlaaCrcP
namespace Go.Proofs.Ytpbbpdehfdchlaa
open Go.RowKit CrcMath Go.Proofs.YtpbbpdehfdchlaaW.PrintWords
set_option linter.unusedVariables false

set_option maxHeartbeats 2000000 in
set_option maxRecDepth 100000 in
theorem crcSteps_walk (p s b : Int) (w : World) (h0 : 0 ≤ b) (h1 : b < 256) :
    Calls Try.prog 4 #[.int .i64 p, .int .i64 s, .int .u8 b] w fun e w' => e = .returned (.bool true) ∧ Below w.heap.size w w' := by
  obtain ⟨m, rfl⟩ := Int.eq_ofNat_of_zero_le h0
  have hm : m < 256 := by omega
  go_enter Try.func4, Try.ntmps4
  go_wp2_with fail
  (with_reducible refine (first_any _).mono ?_)
  rintro e w1 ⟨rfl, hb1⟩
  have HB1 := Aside0.mk hb1
  clear hb1
  go_wp2_with fail
  (with_reducible refine (table_any p _).mono ?_)
  rintro e w2 ⟨v, rfl, ho, hb2⟩
  have HB2 := Aside0.mk (below_two HB1.out hb2)
  clear hb2
  obtain ⟨g, cap, rfl, hgb, hgl⟩ := own_row ho
  have hcell := (own_at ho (m : Int) (by omega) (by omega)).1
  rw [rd_tab p m hm, Int.toNat_natCast] at hcell
  clear ho
  go_wp2_with fail
  go_region_held3 (fun w' => Aside0 (Below w.heap.size w w') ∧ w2.heap.size ≤ w'.heap.size ∧ w'.cell? ⟨g, m, none⟩ = some (.int .i64 (sti p 0 m)))
    (first | exact ⟨⟨below_drew HB2.out⟩, Nat.le_refl _, hcell⟩ | exact ⟨⟨below_two (below_drew HB2.out) hb3⟩, hb3.size, (hb3.cell (p := ⟨g, m, none⟩) hgl).trans hcell⟩ | go_keep)
    (first | (go_at_call 11; refine (first_any _).mono ?_; rintro e w3 ⟨rfl, hb3⟩) | (go_at_call 19; refine (step_any _ _ _ _ (by omega) (by omega)).mono ?_; rintro e w' ⟨rfl, rfl⟩) | (go_at_call 20; refine (refStep_any _ _ _ _ (by omega) (by omega)).mono ?_; rintro e w' ⟨rfl, rfl⟩))
  go_wp2
  go_ret
  exact ⟨by simp, below_two (below_drew HB2.out) hb3⟩

theorem sti_xor (p s t : Int) (a b : Nat) (ha : a < 256) (hb : b < 256) : bits .xor .i64 (sti p s a) (sti p t b) = sti p (bits .xor .i64 s t) ((a ^^^ b : Nat) : Int) := by
  have e : ∀ (s : Int) (a : Nat), sti p s a = (st (lo p) (lo s) a : Nat) := fun s a => by unfold sti; rw [Int.toNat_natCast]
  rw [e, e, e, lo_xor, st_xor, xor64 (st_lt (lo_lt p) (lo_lt s) ha) (st_lt (lo_lt p) (lo_lt t) hb)]
theorem sti_zero (p : Int) : sti p 0 0 = 0 := by
  have : sti p 0 0 = (st (lo p) 0 0 : Nat) := rfl
  rw [this]; unfold st; rw [Nat.xor_self, it_zero]; rfl

set_option maxHeartbeats 2000000 in
set_option maxRecDepth 100000 in
theorem crcLinear_walk (p s t x y : Int) (w : World) (hx0 : 0 ≤ x) (hx1 : x < 256) (hy0 : 0 ≤ y) (hy1 : y < 256) :
    Calls Try.prog 7 #[.int .i64 p, .int .i64 s, .int .i64 t, .int .u8 x, .int .u8 y] w fun e w' => e = .returned (.bool true) ∧ Below w.heap.size w w' := by
  obtain ⟨a, rfl⟩ := Int.eq_ofNat_of_zero_le hx0
  obtain ⟨b, rfl⟩ := Int.eq_ofNat_of_zero_le hy0
  have ha : a < 256 := by omega
  have hb : b < 256 := by omega
  have hab : a ^^^ b < 256 := Nat.xor_lt_two_pow (n := 8) ha hb
  have hX := Aside0.mk (sti_xor p s t a b ha hb)
  have hY := Aside0.mk (sti_xor p 0 0 a b ha hb)
  have hxab := xor8 ha hb
  have h00 : bits .xor .i64 0 0 = 0 := by decide
  rw [h00] at hY
  obtain ⟨c, hc⟩ : ∃ c, a ^^^ b = c := ⟨_, rfl⟩
  rw [hc] at hxab hab hX hY
  have HZ := Aside0.mk (sti_zero p)
  clear hc h00 hx0 hx1 hy0 hy1
  go_enter Try.func7, Try.ntmps7
  go_wp2_with fail
  (with_reducible refine (first_any _).mono ?_)
  rintro e w1 ⟨rfl, hb1⟩
  have HB1 := Aside0.mk hb1
  clear hb1
  go_wp2_with fail
  (with_reducible refine (step_any _ _ _ _ (by omega) (by omega)).mono ?_)
  rintro e w' ⟨rfl, rfl⟩
  go_wp2_with fail
  (with_reducible refine (step_any _ _ _ _ (by omega) (by omega)).mono ?_)
  rintro e w' ⟨rfl, rfl⟩
  go_wp2_with fail
  (with_reducible refine (table_any p _).mono ?_)
  rintro e w2 ⟨v, rfl, ho, hb2⟩
  have HB2 := Aside0.mk (below_two HB1.out hb2)
  clear hb2
  obtain ⟨g, cap, rfl, hgb, hgl⟩ := own_row ho
  have hcell : ∀ m : Nat, m < 256 → w2.cell? ⟨g, m, none⟩ = some (.int .i64 (sti p 0 m)) := fun m hm => by
    have h := (own_at ho (m : Int) (by omega) (by omega)).1
    rwa [rd_tab p m hm, Int.toNat_natCast] at h
  have ca := hcell a ha
  have cb := hcell b hb
  have cc := hcell c hab
  have cz := hcell 0 (by decide)
  have e0 : ((0 : Nat) : Int) = 0 := rfl
  rw [e0, HZ.out] at cz
  clear ho hcell e0
  have hY1 := hY.out
  have hX1 := hX.out
  have hZ1 := HZ.out
  have i1 : (0 : Int) ≤ (a : Int) := by omega
  have i2 : (0 : Int) ≤ (b : Int) := by omega
  have i3 : (0 : Int) ≤ (c : Int) := by omega
  have i4 : (a : Int) < 256 := by omega
  have i5 : (b : Int) < 256 := by omega
  have i6 : (c : Int) < 256 := by omega
  clear ha hb hab
  go_wp2_with fail
  go_region_held3 (fun w' => Aside0 (Below w.heap.size w w') ∧ w2.heap.size ≤ w'.heap.size ∧ w'.cell? ⟨g, a, none⟩ = some (.int .i64 (sti p 0 a)) ∧ w'.cell? ⟨g, b, none⟩ = some (.int .i64 (sti p 0 b)) ∧ w'.cell? ⟨g, c, none⟩ = some (.int .i64 (sti p 0 c)) ∧ w'.cell? ⟨g, 0, none⟩ = some (.int .i64 0))
    (first | exact ⟨⟨below_drew HB2.out⟩, Nat.le_refl _, ca, cb, cc, cz⟩ | exact ⟨⟨below_two (below_drew HB2.out) hb3⟩, hb3.size, (hb3.cell (p := ⟨g, a, none⟩) hgl).trans ca, (hb3.cell (p := ⟨g, b, none⟩) hgl).trans cb, (hb3.cell (p := ⟨g, c, none⟩) hgl).trans cc, (hb3.cell (p := ⟨g, 0, none⟩) hgl).trans cz⟩ | go_keep)
    (first | (go_at_call 11; refine (first_any _).mono ?_; rintro e w3 ⟨rfl, hb3⟩) | (go_at_call 19; refine (step_any _ _ _ _ (by omega) (by omega)).mono ?_; rintro e w' ⟨rfl, rfl⟩))
  go_wp2
  go_ret
  exact ⟨by simp, below_two (below_drew HB2.out) hb3⟩
end Go.Proofs.Ytpbbpdehfdchlaa
