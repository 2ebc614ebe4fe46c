/- More laws of the check sums over the contracts. Conditions: the arguments read as data. -/
import Derived.Test.YtpbbpdehfdchlaaCrcL
namespace Go.Proofs.Ytpbbpdehfdchlaa
open Go.RowKit CrcMath Go.Proofs.YtpbbpdehfdchlaaW.PrintWords
set_option linter.unusedVariables false

theorem goi_ne_last (p s : Int) (hp : 32768 ≤ lo p) (l : List Int) (x y : Int) (hb : Bytes l) (hx : 0 ≤ x ∧ x < 256) (hy : 0 ≤ y ∧ y < 256) (h0 : 0 ≤ s) (h1 : s < 65536) (hne : x ≠ y) : goi p s (l ++ [x]) ≠ goi p s (l ++ [y]) := by
  have bx : Bytes (l ++ [x]) := bytes_append hb (bytes_one hx.1 hx.2)
  have bY : Bytes (l ++ [y]) := bytes_append hb (bytes_one hy.1 hy.2)
  rw [goi_nat p _ bx s h0 h1, goi_nat p _ bY s h0 h1, ns_append, ns_append, go_append, go_append]
  have hg := go_lt (lo_lt p) (ns l) (show s.toNat < 65536 by omega) (ns_lt hb)
  intro h
  have h' : st (lo p) (go (lo p) s.toNat (ns l)) x.toNat = st (lo p) (go (lo p) s.toNat (ns l)) y.toNat := by
    have : go (lo p) (go (lo p) s.toNat (ns l)) (ns [x]) = go (lo p) (go (lo p) s.toNat (ns l)) (ns [y]) := by omega
    exact this
  have := st_inj_byte (lo_lt p) hp hg (by omega) (by omega) h'
  omega
theorem goi_ne_first (p s : Int) (hp : 32768 ≤ lo p) (l : List Int) (x y : Int) (hb : Bytes l) (hx : 0 ≤ x ∧ x < 256) (hy : 0 ≤ y ∧ y < 256) (h0 : 0 ≤ s) (h1 : s < 65536) (hne : x ≠ y) : goi p s ([x] ++ l) ≠ goi p s ([y] ++ l) := by
  have bx : Bytes ([x] ++ l) := bytes_append (bytes_one hx.1 hx.2) hb
  have bY : Bytes ([y] ++ l) := bytes_append (bytes_one hy.1 hy.2) hb
  rw [goi_nat p _ bx s h0 h1, goi_nat p _ bY s h0 h1, ns_append, ns_append, go_append, go_append]
  intro h
  have hs : s.toNat < 65536 := by omega
  have h' : go (lo p) (st (lo p) s.toNat x.toNat) (ns l) = go (lo p) (st (lo p) s.toNat y.toNat) (ns l) := by
    have : go (lo p) (go (lo p) s.toNat (ns [x])) (ns l) = go (lo p) (go (lo p) s.toNat (ns [y])) (ns l) := by omega
    exact this
  have h2 := go_inj (lo_lt p) hp (ns l) (st_lt (lo_lt p) hs (show x.toNat < 256 by omega)) (st_lt (lo_lt p) hs (show y.toNat < 256 by omega)) (ns_lt hb) h'
  have := st_inj_byte (lo_lt p) hp hs (by omega) (by omega) h2
  omega
theorem xor_all_ne {a b : Int} (ha : 0 ≤ a ∧ a < 65536) (hb : 0 ≤ b ∧ b < 65536) (h : a ≠ b) : (bits .xor .i64 a 65535 != bits .xor .i64 b 65535) = true := by
  obtain ⟨q2, rfl⟩ := Int.eq_ofNat_of_zero_le ha.1
  obtain ⟨q3, rfl⟩ := Int.eq_ofNat_of_zero_le hb.1
  have e : (65535 : Int) = ((65535 : Nat) : Int) := rfl
  rw [bne_iff_ne, e, xor64 (show q2 < 65536 by omega) (by decide), xor64 (show q3 < 65536 by omega) (by decide)]
  intro h2
  have h' : q2 ^^^ 65535 = q3 ^^^ 65535 := by omega
  exact h (by rw [xor_cancel' h'])
/-- A literal of bytes in new memory, as a row of one's own. -/
theorem lit_one (w : World) (base : Nat) (e : TypeId) (x : Int) (hb : base ≤ w.heap.size) : (w.alloc (.cells #[.int .u8 x] e)).ownsRow base e 1 (.slice (some ⟨w.heap.size, 0, none⟩) 1 1) 1 (nums .u8 [x]) := own_lit w base e .u8 [x] hb (by simp)

set_option maxHeartbeats 2000000 in
set_option maxRecDepth 100000 in
theorem crcEnds_walk (A : Option Addr) (n c : Nat) (l : List Int) (x y : Int) (w : World) (HR : ReadsInt w .u8 A n l) (hb : Bytes l) (hx0 : 0 ≤ x) (hx1 : x < 256) (hy0 : 0 ≤ y) (hy1 : y < 256) :
    Calls Try.prog 10 #[.slice A n c, .int .u8 x, .int .u8 y] w fun e w' => e = .returned (.bool true) ∧ Below w.heap.size w w' := by
  have hm := HR.2.1
  have HL := Aside0.mk HR.1
  by_cases hgo : n ≤ 20000 ∧ x ≠ y
  · obtain ⟨hlen, hne⟩ := hgo
    have hxy : (x == y) = false := by simpa using hne
    have HRw := Aside0.mk HR
    have HX := Aside0.mk hb
    have bx1 := Aside0.mk (bytes_append hb (bytes_one hx0 hx1))
    have by1 := Aside0.mk (bytes_append hb (bytes_one hy0 hy1))
    have bx2 := Aside0.mk (bytes_append (bytes_one hx0 hx1) hb)
    have by2 := Aside0.mk (bytes_append (bytes_one hy0 hy1) hb)
    have m1 : (goi 40961 65535 (l ++ [x]) != goi 40961 65535 (l ++ [y])) = true := bne_iff_ne.2 (goi_ne_last 40961 65535 (by decide) l x y hb ⟨hx0, hx1⟩ ⟨hy0, hy1⟩ (by decide) (by decide) hne)
    have m2 := xor_all_ne (goi_range 42684 0 _ bx1.out (by decide) (by decide)) (goi_range 42684 0 _ by1.out (by decide) (by decide)) (goi_ne_last 42684 0 (by decide) l x y hb ⟨hx0, hx1⟩ ⟨hy0, hy1⟩ (by decide) (by decide) hne)
    have m3 : (goi 40961 65535 ([x] ++ l) != goi 40961 65535 ([y] ++ l)) = true := bne_iff_ne.2 (goi_ne_first 40961 65535 (by decide) l x y hb ⟨hx0, hx1⟩ ⟨hy0, hy1⟩ (by decide) (by decide) hne)
    have m4 := xor_all_ne (goi_range 42684 0 _ bx2.out (by decide) (by decide)) (goi_range 42684 0 _ by2.out (by decide) (by decide)) (goi_ne_first 42684 0 (by decide) l x y hb ⟨hx0, hx1⟩ ⟨hy0, hy1⟩ (by decide) (by decide) hne)
    have m5 : (goi 40961 65535 (l ++ [x]) == sti 40961 (goi 40961 65535 l) x) = true := by rw [goi_snoc]; simp
    obtain ⟨L1, hL1⟩ : ∃ L, l ++ [x] = L := ⟨_, rfl⟩
    obtain ⟨L2, hL2⟩ : ∃ L, l ++ [y] = L := ⟨_, rfl⟩
    obtain ⟨L3, hL3⟩ : ∃ L, [x] ++ l = L := ⟨_, rfl⟩
    obtain ⟨L4, hL4⟩ : ∃ L, [y] ++ l = L := ⟨_, rfl⟩
    rw [hL1] at bx1 m1 m2 m5
    rw [hL2] at by1 m1 m2
    rw [hL3] at bx2 m3 m4
    rw [hL4] at by2 m3 m4
    have K1 := Aside0.mk hL1
    have K2 := Aside0.mk hL2
    have K3 := Aside0.mk hL3
    have K4 := Aside0.mk hL4
    clear hL1 hL2 hL3 hL4 hne hb HR
    go_enter Try.func10, Try.ntmps10
    go_wp2_with fail
    (with_reducible refine (first_any _).mono ?_)
    rintro e w1 ⟨rfl, hb1⟩
    have HB1 := Aside0.mk hb1
    clear hb1
    go_wp2_with fail
    (with_reducible refine (copyBytes_any A n c l w1 (HRw.out.below HB1.out) (by omega)).mono ?_)
    rintro e w2 ⟨v2, rfl, ho2, hb2⟩
    have HB2 := Aside0.mk (below_two HB1.out hb2)
    have HO2 := Aside0.mk (own_weaken ho2 HB1.out.size)
    clear hb2 ho2
    go_wp2_with (at_builtin; refine print_append_num (w0 := w) w.heap.size rfl (.tmp 23) (.tmp 25) 22 5 .u8 1 rfl Try.underlying22 info_u8 (by omega) v2 l x rfl rfl HO2.out HB2.out HB2.out.size (by rw [HL.out]; omega) ?_; intro v3 w3 ho hb hg hat; rw [K1.out] at ho; have HO3 := Aside0.mk ho; have HB3 := Aside0.mk hb; clear ho hb hg hat HO2)
    (with_reducible refine (copyBytes_any A n c l w3 (HRw.out.below HB3.out) (by omega)).mono ?_)
    rintro e w4 ⟨v4, rfl, ho4, hb4⟩
    have HB4 := Aside0.mk (below_two HB3.out hb4)
    have HO34 := Aside0.mk (pw_own_below HO3.out hb4)
    have HN4 := Aside0.mk (ne_below ho4 HO3.out)
    have HO4 := Aside0.mk (own_weaken ho4 HB3.out.size)
    clear hb4 ho4 HO3
    go_wp2_with (first
      | (at_builtin; refine print_append_num (w0 := w) w.heap.size rfl (.tmp 28) (.tmp 30) 22 5 .u8 1 rfl Try.underlying22 info_u8 (by omega) v4 l y rfl rfl HO4.out HB4.out HB4.out.size (by rw [HL.out]; omega) ?_; intro v5 w5 ho hb hg hat; rw [K2.out] at ho; have HO5 := Aside0.mk ho; have HB5 := Aside0.mk hb; have HO35 := Aside0.mk (own_other HO34.out hg (ne_other HN4.out)); clear ho hb hg hat HO34)
      | (at_builtin; refine print_append_row (w0 := w) w.heap.size rfl (.tmp 33) (.tmp 34) 22 5 .u8 1 rfl Try.underlying22 info_u8 (by omega) _ [x] l _ _ _ rfl rfl (lit_one w5 w.heap.size 5 x HB5.out.size) (HRw.out.below (below_alloc HB5.out (.cells #[.int .u8 x] 5))) (below_alloc HB5.out (.cells #[.int .u8 x] 5)) (below_alloc HB5.out (.cells #[.int .u8 x] 5)).size (by simp; omega) ?_; intro v6 w6 ho hb hg hat; rw [K3.out] at ho; have HO6 := Aside0.mk ho; have HB6 := Aside0.mk hb; have HO36 := Aside0.mk (own_other (HO35.out.alloc (.cells #[.int .u8 x] 5)) hg (ne_other (ne_made (len := 1) (cap := 1) HO35.out))); have HO56 := Aside0.mk (own_other (HO5.out.alloc (.cells #[.int .u8 x] 5)) hg (ne_other (ne_made (len := 1) (cap := 1) HO5.out))); clear ho hb hg hat)
      | (at_builtin; refine print_append_row (w0 := w) w.heap.size rfl (.tmp 37) (.tmp 38) 22 5 .u8 1 rfl Try.underlying22 info_u8 (by omega) _ [y] l _ _ _ rfl rfl (lit_one w6 w.heap.size 5 y HB6.out.size) (HRw.out.below (below_alloc HB6.out _)) (below_alloc HB6.out _) (below_alloc HB6.out _).size (by simp; omega) ?_; intro v7 w7 ho hb hg hat; rw [K4.out] at ho; have HO7 := Aside0.mk ho; have HB7 := Aside0.mk hb; have HO37 := Aside0.mk (own_other (HO36.out.alloc _) hg (ne_other (ne_made (len := 1) (cap := 1) HO36.out))); have HO57 := Aside0.mk (own_other (HO56.out.alloc _) hg (ne_other (ne_made (len := 1) (cap := 1) HO56.out))); have HO67 := Aside0.mk (own_other (HO6.out.alloc _) hg (ne_other (ne_made (len := 1) (cap := 1) HO6.out))); clear ho hb hg hat HO6 HO36 HO56))
    refine (first_any _).mono ?_
    rintro e w8 ⟨rfl, hb8⟩
    have HB8 := Aside0.mk (below_two HB7.out hb8)
    obtain ⟨A3, c3, rfl, HS3⟩ := own_reads (pw_own_below HO37.out hb8)
    obtain ⟨A5, c5, rfl, HS5⟩ := own_reads (pw_own_below HO57.out hb8)
    obtain ⟨A6, c6, rfl, HS6⟩ := own_reads (pw_own_below HO67.out hb8)
    obtain ⟨A7, c7, rfl, HS7⟩ := own_reads (pw_own_below HO7.out hb8)
    have HR8 := HRw.out.below HB8.out
    clear hb8 HO37 HO57 HO67 HO7
    go_wp2_with fail
    (with_reducible refine (modbus_any _ _ _ _ _ HS3 bx1.out).mono ?_)
    rintro e w' ⟨rfl, rfl⟩
    go_wp2_with fail
    (with_reducible refine (modbus_any _ _ _ _ _ HS5 by1.out).mono ?_)
    rintro e w' ⟨rfl, rfl⟩
    go_wp2_with fail
    (with_reducible refine (dnp_any _ _ _ _ _ HS3 bx1.out).mono ?_)
    rintro e w' ⟨rfl, rfl⟩
    go_wp2_with fail
    (with_reducible refine (dnp_any _ _ _ _ _ HS5 by1.out).mono ?_)
    rintro e w' ⟨rfl, rfl⟩
    go_wp2_with fail
    (with_reducible refine (modbus_any _ _ _ _ _ HS6 bx2.out).mono ?_)
    rintro e w' ⟨rfl, rfl⟩
    go_wp2_with fail
    (with_reducible refine (modbus_any _ _ _ _ _ HS7 by2.out).mono ?_)
    rintro e w' ⟨rfl, rfl⟩
    go_wp2_with fail
    (with_reducible refine (dnp_any _ _ _ _ _ HS6 bx2.out).mono ?_)
    rintro e w' ⟨rfl, rfl⟩
    go_wp2_with fail
    (with_reducible refine (dnp_any _ _ _ _ _ HS7 by2.out).mono ?_)
    rintro e w' ⟨rfl, rfl⟩
    go_wp2_with fail
    (with_reducible refine (modbus_any _ _ _ _ _ HS3 bx1.out).mono ?_)
    rintro e w' ⟨rfl, rfl⟩
    go_wp2_with fail
    (with_reducible refine (modbus_any _ _ _ _ _ HR8 HX.out).mono ?_)
    rintro e w' ⟨rfl, rfl⟩
    go_wp2_with fail
    (with_reducible refine (step_any _ _ _ _ hx0 hx1).mono ?_)
    rintro e w' ⟨rfl, rfl⟩
    go_wp2
    go_ret
    exact ⟨rfl, HB8.out⟩
  · by_cases hlen : n ≤ 20000
    · have hxy : (x == y) = true := by simp; omega
      clear hgo
      go_enter Try.func10, Try.ntmps10
      go_wp2_with fail
      (with_reducible refine (first_any _).mono ?_)
      rintro e w1 ⟨rfl, hb1⟩
      have HB1 := Aside0.mk hb1
      clear hb1
      go_wp2_with fail
      (with_reducible refine (first_any _).mono ?_)
      rintro e w2 ⟨rfl, hb2⟩
      have HB2 := Aside0.mk (below_two HB1.out hb2)
      clear hb2
      go_wp2
      go_ret
      exact ⟨rfl, HB2.out⟩
    · clear hgo
      go_enter Try.func10, Try.ntmps10
      go_wp2_with fail
      (with_reducible refine (first_any _).mono ?_)
      rintro e w1 ⟨rfl, hb1⟩
      have HB1 := Aside0.mk hb1
      clear hb1
      go_wp2_with fail
      (with_reducible refine (first_any _).mono ?_)
      rintro e w2 ⟨rfl, hb2⟩
      have HB2 := Aside0.mk (below_two HB1.out hb2)
      clear hb2
      go_wp2
      go_ret
      exact ⟨rfl, HB2.out⟩
end Go.Proofs.Ytpbbpdehfdchlaa
