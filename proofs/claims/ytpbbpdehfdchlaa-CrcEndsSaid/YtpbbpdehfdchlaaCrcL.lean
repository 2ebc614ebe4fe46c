/- The laws of the check sums over the contracts: each law's call answers true and turns nothing that was there. Conditions: the arguments read as data. -/
import Derived.Test.YtpbbpdehfdchlaaCrcA
namespace Go.Proofs.Ytpbbpdehfdchlaa
open Go.RowKit CrcMath Go.Proofs.YtpbbpdehfdchlaaW.PrintWords
set_option linter.unusedVariables false

/-- What the shell tells of a slice of bytes that came in. -/
def InRow (k : IntKind) (w : World) (a : Option Addr) (len cap : Nat) (zs : List Int) : Prop :=
  (a = none ∧ len = 0 ∧ cap = 0 ∧ zs = []) ∨
  ∃ x, a = some x ∧ len ≤ cap ∧ cap ≤ maxLen ∧ zs.length = cap ∧ (∀ i, i < zs.length → w.cell? (x.add i) = some (.int k (zs.getD i 0))) ∧ ∀ n ∈ zs, (Lit.int k n).wf = true
theorem InRow.reads {k : IntKind} {w : World} {a : Option Addr} {len cap : Nat} {zs : List Int} (h : InRow k w a len cap zs) : ReadsInt w k a len (zs.take len) := by
  rcases h with ⟨rfl, rfl, rfl, rfl⟩ | ⟨x, rfl, h1, h2, h3, h4, h5⟩
  · exact reads_nil _ _ _
  · have hm : len ≤ 9223372036854775807 := by unfold maxLen at h2; omega
    refine ⟨by simp; omega, hm, fun _ => ⟨x, rfl, fun j hj => ?_⟩⟩
    rw [h4 j (by omega)]
    simp [List.getD_eq_getElem?_getD, hj]
theorem InRow.bytes {w : World} {a : Option Addr} {len cap : Nat} {zs : List Int} (h : InRow .u8 w a len cap zs) : Bytes (zs.take len) := by
  rcases h with ⟨rfl, rfl, rfl, rfl⟩ | ⟨x, rfl, h1, h2, h3, h4, h5⟩
  · intro x hx; simp at hx
  · exact fun x hx => bytes_of_wf h5 x (List.mem_of_mem_take hx)
theorem wf_byte {x : Int} (h : (Lit.int .u8 x).wf = true) : 0 ≤ x ∧ x < 256 := by
  simp [Lit.wf, IntKind.min, IntKind.max, IntKind.bits, IntKind.signed] at h
  omega
theorem wf_int {x : Int} (h : (Lit.int .i64 x).wf = true) : -9223372036854775808 ≤ x ∧ x ≤ 9223372036854775807 := by
  simp [Lit.wf, IntKind.min, IntKind.max, IntKind.bits, IntKind.signed] at h
  omega
theorem InRow.room {k : IntKind} {w : World} {a : Option Addr} {len cap : Nat} {zs : List Int} (h : InRow k w a len cap zs) : len ≤ cap ∧ cap ≤ 9223372036854775807 := by
  rcases h with ⟨_, rfl, rfl, _⟩ | ⟨_, _, h1, h2, _⟩
  · exact ⟨Nat.le_refl _, by decide⟩
  · unfold maxLen at h2; omega
theorem below_two {w w1 w2 : World} (h : Below w.heap.size w w1) (k : Below w1.heap.size w1 w2) : Below w.heap.size w w2 := h.trans (k.mono h.size)

set_option maxHeartbeats 1000000 in
set_option maxRecDepth 100000 in
theorem crcSums_walk (A : Option Addr) (n c : Nat) (l : List Int) (w : World) (HR : ReadsInt w .u8 A n l) (hb : Bytes l) :
    Calls Try.prog 3 #[.slice A n c] w fun e w' => e = .returned (.bool true) ∧ Below w.heap.size w w' := by
  have hm := HR.2.1
  have HL := Aside0.mk HR.1
  by_cases hlen : n ≤ 20000
  · go_enter Try.func3, Try.ntmps3
    go_wp2_with fail
    (with_reducible refine (first_any _).mono ?_)
    rintro e w1 ⟨rfl, hb1⟩
    have HB1 := Aside0.mk hb1
    have HR1 := HR.below hb1
    clear hb1
    go_wp2_with fail
    (with_reducible refine (copyBytes_any A n c l w1 HR1 (by omega)).mono ?_)
    rintro e w2 ⟨v, rfl, ho, hb2⟩
    obtain ⟨A2, c2, rfl, HS⟩ := own_reads ho
    have HB2 := Aside0.mk (below_two HB1.out hb2)
    have HR2 := HR1.below hb2
    clear hb2 ho HR1
    go_wp2_with fail
    (with_reducible refine (first_any _).mono ?_)
    rintro e w3 ⟨rfl, hb3⟩
    have HB3 := Aside0.mk (below_two HB2.out hb3)
    have HR3 := HR2.below hb3
    have HS3 := HS.below hb3
    clear hb3
    go_wp2_with fail
    (with_reducible refine (modbus_any _ _ _ l _ HS3 hb).mono ?_)
    rintro e w' ⟨rfl, rfl⟩
    go_wp2_with fail
    (with_reducible refine (refModbus_any _ _ _ l _ HR3 hb).mono ?_)
    rintro e w' ⟨rfl, rfl⟩
    go_wp2_with fail
    (with_reducible refine (dnp_any _ _ _ l _ HS3 hb).mono ?_)
    rintro e w' ⟨rfl, rfl⟩
    go_wp2_with fail
    (with_reducible refine (refDnp_any _ _ _ l _ HR3 hb).mono ?_)
    rintro e w' ⟨rfl, rfl⟩
    go_wp2_with fail
    (with_reducible refine (bytes_any _ _ _ _ _ _ l l _ HS3 HR3 hb hb).mono ?_)
    rintro e w' ⟨rfl, rfl⟩
    go_wp2
    go_ret
    exact ⟨by simp, HB3.out⟩
  · go_enter Try.func3, Try.ntmps3
    go_wp2_with fail
    (with_reducible refine (first_any _).mono ?_)
    rintro e w1 ⟨rfl, hb1⟩
    have HB1 := Aside0.mk hb1
    clear hb1
    go_wp2_with fail
    (with_reducible refine (first_any _).mono ?_)
    rintro e w2 ⟨rfl, hb2⟩
    have HB2 := Aside0.mk (below_two HB1.out hb2)
    clear hb2
    go_wp2
    go_ret
    exact ⟨rfl, HB2.out⟩

theorem rd_tab (p : Int) (m : Nat) (h : m < 256) : rd (tab p 256) (m : Int) = sti p 0 m := by
  unfold rd tab
  simp [List.getD_eq_getElem?_getD, h]
theorem int_lo (s : Int) : lo (bits .and .i64 s 65535) = lo s := by rw [and16]; exact lo_nat (lo_lt s)
/-- A step is a row of the table and the sum moved down. -/
theorem table_law (p s : Int) (b : Nat) (hb : b < 256) : sti p s b = bits .xor .i64 (sti p 0 ((lo s ^^^ b) % 256 : Nat)) ((lo s : Int) / 256) := by
  have hx : lo s ^^^ b < 65536 := xor_lt16 (lo_lt s) (by omega)
  have h0 : lo 0 = 0 := rfl
  have e1 : sti p 0 ((lo s ^^^ b) % 256 : Nat) = (it (lo p) 8 ((lo s ^^^ b) % 256) : Nat) := by
    unfold sti st
    rw [h0, Int.toNat_natCast, Nat.zero_xor]
  have e2 : ((lo s : Int) / 256) = ((lo s / 256 : Nat) : Int) := by omega
  rw [e1, e2, xor64 (it_lt (lo_lt p) 8 (by omega)) (by have := lo_lt s; omega)]
  unfold sti st
  rw [it_table, Int.toNat_natCast]
  have e3 : (lo s ^^^ b) / 256 = lo s / 256 := by
    have : (lo s ^^^ b) / 2 ^ 8 = lo s / 2 ^ 8 ^^^ b / 2 ^ 8 := by
      apply Nat.eq_of_testBit_eq; intro i
      simp only [Nat.testBit_div_two_pow, Nat.testBit_xor]
    have e : b / 2 ^ 8 = 0 := by omega
    rw [e, Nat.xor_zero] at this
    exact this
  rw [e3]
/-- The table in its block. -/
theorem own_row {w : World} {base : Nat} {e : TypeId} {v : Value} {xs : List Value} (h : w.ownsRow base e 1 v 256 xs) : ∃ g cap, v = .slice (some ⟨g, 0, none⟩) 256 cap ∧ base ≤ g ∧ g < w.heap.size := h.form (by omega)

set_option maxHeartbeats 1000000 in
set_option maxRecDepth 100000 in
theorem crcTables_walk (p s b : Int) (w : World) (h0 : 0 ≤ b) (h1 : b < 256) :
    Calls Try.prog 5 #[.int .i64 p, .int .i64 s, .int .u8 b] w fun e w' => e = .returned (.bool true) ∧ Below w.heap.size w w' := by
  obtain ⟨m, rfl⟩ := Int.eq_ofNat_of_zero_le h0
  have hm : m < 256 := by omega
  clear h0 h1
  have hxl : lo s ^^^ m < 65536 := xor_lt16 (lo_lt s) (by omega)
  have HT := Aside0.mk (table_law p s m hm)
  have ha := and16 s
  have hx : bits BinOp.xor IntKind.i64 (lo s : Int) (m : Int) = ((lo s ^^^ m : Nat) : Int) := xor64 (lo_lt s) (by omega)
  have hi : bits BinOp.and IntKind.i64 ((lo s ^^^ m : Nat) : Int) 255 = (((lo s ^^^ m) % 256 : Nat) : Int) := and255 _ hxl
  obtain ⟨i, hi0⟩ : ∃ i, (lo s ^^^ m) % 256 = i := ⟨_, rfl⟩
  have hil : i < 256 := by omega
  obtain ⟨X, hX⟩ : ∃ X, lo s ^^^ m = X := ⟨_, rfl⟩
  rw [hi0] at hi HT
  rw [hX] at hx hi
  clear hX hi0 hxl
  obtain ⟨R, hR⟩ : ∃ R, sti p s m = R := ⟨_, rfl⟩
  have hRb : 0 ≤ R ∧ R < 65536 := by rw [← hR]; exact sti_range p s m (by omega)
  rw [hR] at HT
  have HR := Aside0.mk hR
  clear hR
  obtain ⟨hR0, hR1⟩ := hRb
  go_enter Try.func5, Try.ntmps5
  go_wp2_with fail
  (with_reducible refine (first_any _).mono ?_)
  rintro e w1 ⟨rfl, hb1⟩
  have HB1 := Aside0.mk hb1
  clear hb1
  go_wp2_with fail
  (with_reducible refine (table_any p _).mono ?_)
  rintro e w2 ⟨v, rfl, ho, hb2⟩
  have HB2 := Aside0.mk (below_two HB1.out hb2)
  clear hb2
  obtain ⟨g, cap, rfl, hgb, hgl⟩ := own_row ho
  have hcell := (own_at ho (i : Int) (by omega) (by omega)).1
  rw [rd_tab p i hil, Int.toNat_natCast] at hcell
  clear ho
  go_wp2_with fail
  (with_reducible refine (step_any p s m _ (by omega) (by omega)).mono ?_)
  rintro e w' ⟨rfl, rfl⟩
  rw [HR.out]
  go_wp2_with fail
  (with_reducible refine (first_any _).mono ?_)
  rintro e w3 ⟨rfl, hb3⟩
  have HB3 := Aside0.mk (below_two HB2.out hb3)
  have hcell3 : w3.cell? ⟨g, i, none⟩ = some (.int .i64 (sti p 0 i)) := (hb3.cell (p := ⟨g, i, none⟩) hgl).trans hcell
  clear hb3 hcell
  have HT2 : (bits .xor .i64 (sti p 0 i) ((lo s : Int) / 256)) = R := HT.out.symm
  go_wp2
  go_ret
  exact ⟨rfl, HB3.out⟩

theorem goi_range (p s : Int) (l : List Int) (hb : Bytes l) (h0 : 0 ≤ s) (h1 : s < 65536) : 0 ≤ goi p s l ∧ goi p s l < 65536 := by
  rw [goi_nat p l hb s h0 h1]
  have := go_lt (lo_lt p) (ns l) (show s.toNat < 65536 by omega) (ns_lt hb)
  omega
theorem goi_append (p : Int) (l m : List Int) : ∀ s, goi p s (l ++ m) = goi p (goi p s l) m := by
  induction l with
  | nil => intro s; rfl
  | cons x l ih => intro s; exact ih _
theorem goi_own (p m : Int) (h0 : 0 ≤ m) (h1 : m < 65536) : goi p m [m % 256, m / 256] = 0 := by
  obtain ⟨k, rfl⟩ := Int.eq_ofNat_of_zero_le h0
  rw [goi_nat p _ (by intro x hx; simp at hx; rcases hx with rfl | rfl <;> omega) _ h0 h1]
  have e : ns [(k : Int) % 256, (k : Int) / 256] = [k % 256, k / 256] := by
    simp only [ns, List.map_cons, List.map_nil]
    have : ((k : Int) / 256).toNat = k / 256 := by omega
    rw [this]; have : ((k : Int) % 256).toNat = k % 256 := by omega
    rw [this]
  rw [e, Int.toNat_natCast, go_own (show k < 65536 by omega)]; rfl
theorem xor_pow_ne (x j : Nat) : x ^^^ 2 ^ j ≠ x := by
  intro h
  have h2 : x ^^^ 2 ^ j = x ^^^ 0 := by rw [h, Nat.xor_zero]
  have := xor_cancel h2
  have := Nat.two_pow_pos j
  omega

set_option maxHeartbeats 2000000 in
set_option maxRecDepth 100000 in
theorem crcTurned_walk (A : Option Addr) (n c : Nat) (l : List Int) (bit : Int) (w : World) (HR : ReadsInt w .u8 A n l) (hb : Bytes l) (hbit : -9223372036854775808 ≤ bit) (hbit2 : bit ≤ 9223372036854775807) :
    Calls Try.prog 6 #[.slice A n c, .int .i64 bit] w fun e w' => e = .returned (.bool true) ∧ Below w.heap.size w w' := by
  have hm := HR.2.1
  have HL := Aside0.mk HR.1
  by_cases hlen : n ≤ 20000
  · have hgr := goi_range 40961 65535 l hb (by omega) (by omega)
    have hown := goi_own 40961 (goi 40961 65535 l) hgr.1 hgr.2
    rw [← goi_append] at hown
    have HMe := Aside0.mk (show goi 40961 65535 l = goi 40961 65535 l from rfl)
    obtain ⟨m, hmm⟩ : ∃ m, goi 40961 65535 l = m := ⟨_, rfl⟩
    rw [hmm] at hgr hown
    obtain ⟨hg0, hg1⟩ := hgr
    have HM := Aside0.mk hmm
    have HZ := Aside0.mk hown
    clear hmm hown HMe
    have hbb : Bytes [m % 256, m / 256] := by intro x hx; simp at hx; rcases hx with rfl | rfl <;> omega
    have HRw := Aside0.mk HR
    go_enter Try.func6, Try.ntmps6
    go_wp2_with fail
    (with_reducible refine (first_any _).mono ?_)
    rintro e w1 ⟨rfl, hb1⟩
    have HB1 := Aside0.mk hb1
    have HR1 := HR.below hb1
    clear hb1
    go_wp2_with fail
    (with_reducible refine (modbus_any _ _ _ l _ HR1 hb).mono ?_)
    rintro e w' ⟨rfl, rfl⟩
    rw [HM.out]
    go_wp2_with fail
    (with_reducible refine (copyBytes_any A n c l w1 HR1 (by omega)).mono ?_)
    rintro e w2 ⟨v, rfl, ho, hb2⟩
    have HB2 := Aside0.mk (below_two HB1.out hb2)
    have HR2 := Aside0.mk (HR1.below hb2)
    have HX := Aside0.mk hb
    have HXB := Aside0.mk (bytes_append hb hbb)
    have HO2 := Aside0.mk (own_weaken (ho.alloc (.cells #[.int .u8 (m % 256), .int .u8 (m / 256)] 5)) HB1.out.size)
    have HRn := Aside0.mk (reads_block (k := .u8) (n := 2) (l := [m % 256, m / 256]) (heap_alloc_new w2 (.cells #[.int .u8 (m % 256), .int .u8 (m / 256)] 5)) rfl rfl (by omega))
    have HB3 := Aside0.mk (below_alloc HB2.out (.cells #[.int .u8 (m % 256), .int .u8 (m / 256)] 5))
    clear hb2 ho HR1 hbb hb HR
    go_wp2_with (first | (at_builtin; refine print_append_row (w0 := w) w.heap.size rfl (.tmp 17) (.tmp 23) 22 5 .u8 1 rfl Try.underlying22 info_u8 (by omega) _ l [m % 256, m / 256] _ _ _ rfl rfl HO2.out HRn.out HB3.out HB3.out.size (by rw [HL.out]; simp; omega) ?_; intro v1 w3 ho hb hg hat; have HO4 := Aside0.mk ho; have HB4 := Aside0.mk hb; clear ho hb hg hat))
    obtain ⟨A4, c4, rfl, HS4⟩ := own_reads HO4.out
    go_wp2_with fail
    (with_reducible refine (modbus_any _ _ _ _ _ HS4 HXB.out).mono ?_)
    rintro e w' ⟨rfl, rfl⟩
    rw [HZ.out]
    clear HS4 HO4
    by_cases hz : ((n : Int) == 0) = true
    · go_wp2_with fail
      (with_reducible refine (first_any _).mono ?_)
      rintro e w5 ⟨rfl, hb5⟩
      have HB5 := Aside0.mk (below_two HB4.out hb5)
      clear hb5
      go_wp2
      go_ret
      exact ⟨rfl, HB5.out⟩
    · have hz1 : ((n : Int) == 0) = false := by simpa using hz
      have hn1 : 1 ≤ n := by simp at hz; omega
      clear hz
      by_cases hneg : bit < 0
      · go_wp2_with fail
        (with_reducible refine (first_any _).mono ?_)
        rintro e w5 ⟨rfl, hb5⟩
        have HB5 := Aside0.mk (below_two HB4.out hb5)
        clear hb5
        go_wp2
        go_ret
        exact ⟨rfl, HB5.out⟩
      · have hn0 : 0 ≤ bit := by omega
        clear hneg hbit hbit2
        go_wp2_with fail
        (with_reducible refine (copyBytes_any A n c l w3 (HRw.out.below HB4.out) (by omega)).mono ?_)
        rintro e w5 ⟨v5, rfl, ho5, hb5⟩
        have HB5 := Aside0.mk (below_two HB4.out hb5)
        clear hb5
        rw [HL.out] at ho5
        obtain ⟨g, cap, rfl, hgb, hgl⟩ := ho5.form (by omega)
        obtain ⟨k, hk⟩ : ∃ k : Nat, bit % (8 * (n : Int)) = (k : Int) := ⟨(bit % (8 * (n : Int))).toNat, by have := Int.emod_nonneg bit (show 8 * (n : Int) ≠ 0 by omega); omega⟩
        have hk8 : k < 8 * n := by have := Int.emod_lt_of_pos bit (show 0 < 8 * (n : Int) by omega); omega
        have hcell := own_at ho5 ((k / 8 : Nat) : Int) (by omega) (by omega)
        rw [Int.toNat_natCast] at hcell
        obtain ⟨hcell, hfr⟩ := hcell
        obtain ⟨x, hx⟩ : ∃ x, rd l ((k / 8 : Nat) : Int) = x := ⟨_, rfl⟩
        have hxb : 0 ≤ x ∧ x < 256 := by rw [← hx]; unfold rd; rw [Int.toNat_natCast]; exact HX.out _ (getD_mem l (k / 8) (by rw [HL.out]; omega) 0)
        rw [hx] at hcell
        have HO5 := Aside0.mk ho5
        have HXE := Aside0.mk hx
        clear ho5 hx
        obtain ⟨hx0, hx1⟩ := hxb
        obtain ⟨X, rfl⟩ := Int.eq_ofNat_of_zero_le hx0
        have hX : X < 256 := by omega
        have hp8 : 2 ^ (k % 8) < 256 := Nat.lt_of_lt_of_le (Nat.pow_lt_pow_right (by decide) (Nat.mod_lt k (by decide))) (by decide : 2 ^ 8 ≤ 256)
        have HY := Aside0.mk (show bits .xor .u8 (X : Int) ((2 : Int) ^ (k % 8) % 256) = ((X ^^^ 2 ^ (k % 8) : Nat) : Int) by
          have e : ((2 : Int) ^ (k % 8) % 256) = ((2 ^ (k % 8) : Nat) : Int) := by
            have : ((2 ^ (k % 8) : Nat) : Int) = (2 : Int) ^ (k % 8) := by simp
            rw [← this]
            generalize 2 ^ (k % 8) = q at hp8 ⊢
            omega
          rw [e]; exact xor8 hX hp8)
        have hst := own_store HO5.out ((k / 8 : Nat) : Int) ((X ^^^ 2 ^ (k % 8) : Nat) : Int)
        rw [Int.toNat_natCast] at hst
        have HO6 := Aside0.mk hst.1
        have HB6 := Aside0.mk (HB5.out.setCell (p := ⟨g, k / 8, none⟩) (Nat.le_trans HB4.out.size hgb) (.int .u8 ((X ^^^ 2 ^ (k % 8) : Nat) : Int)))
        have HV := Aside0.mk (show ((X ^^^ 2 ^ (k % 8) : Nat)) < 256 ∧ (X ^^^ 2 ^ (k % 8)) ≠ X from ⟨Nat.xor_lt_two_pow (n := 8) hX hp8, xor_pow_ne _ _⟩)
        clear hst hp8 hX
        go_wp2_with fail
        clear hcell hfr hx1 hx0
        rw [HY.out]
        refine (first_any _).mono ?_
        rintro e w7 ⟨rfl, hb7⟩
        have HB7 := Aside0.mk (below_two HB6.out hb7)
        have HO7 := Aside0.mk (pw_own_below HO6.out hb7)
        clear hb7 HO6 HO5 HY hk hgl hgb
        obtain ⟨Y, hY⟩ : ∃ Y, X ^^^ 2 ^ (k % 8) = Y := ⟨_, rfl⟩
        rw [hY] at HO7 HV
        clear hY
        obtain ⟨A7, c7, e7, HS7⟩ := own_reads HO7.out
        injection e7 with e7a _ e7c
        subst e7a e7c
        have HXs := Aside0.mk (show Bytes (l.set (k / 8) (Y : Int)) from fun z hz => by
          rcases List.mem_or_eq_of_mem_set hz with h | h
          · exact HX.out z h
          · have := HV.out.1; omega)
        have HN := Aside0.mk (show ∀ p s, 0 ≤ s → s < 65536 → 32768 ≤ lo p → goi p s (l.set (k / 8) (Y : Int)) ≠ goi p s l from fun p s h0 h1 h2 => by
          rw [goi_nat p _ HXs.out s h0 h1, goi_nat p _ HX.out s h0 h1]
          have hkl : k / 8 < l.length := by rw [HL.out]; omega
          have e : ns (l.set (k / 8) (Y : Int)) = (ns l).set (k / 8) Y := by simp [ns, List.map_set]
          have e2 : (ns l)[k / 8]'(by simpa [ns] using hkl) = X := by
            have := HXE.out
            simp only [rd, Int.toNat_natCast, List.getD_eq_getElem?_getD, List.getElem?_eq_getElem hkl, Option.getD_some] at this
            simp [ns, this]
          have := go_set_ne (lo_lt p) h2 (ns l) (s := s.toNat) (k / 8) Y (by omega) (ns_lt HX.out) (by simpa [ns] using hkl) HV.out.1 (by rw [e2]; exact HV.out.2)
          rw [e]; omega)
        have N1 := HN.out 40961 65535 (by decide) (by decide) (by decide)
        have N2 := HN.out 42684 0 (by decide) (by decide) (by decide)
        rw [HM.out] at N1
        have r1 := goi_range 42684 0 _ HXs.out (by decide) (by decide)
        have r2 := goi_range 42684 0 _ HX.out (by decide) (by decide)
        obtain ⟨G1, hG1⟩ : ∃ G, goi 40961 65535 (l.set (k / 8) (Y : Int)) = G := ⟨_, rfl⟩
        obtain ⟨G2, hG2⟩ : ∃ G, goi 42684 0 (l.set (k / 8) (Y : Int)) = G := ⟨_, rfl⟩
        obtain ⟨G3, hG3⟩ : ∃ G, goi 42684 0 l = G := ⟨_, rfl⟩
        rw [hG1] at N1
        rw [hG2, hG3] at N2
        rw [hG2] at r1
        rw [hG3] at r2
        have N3 : ¬ bits .xor .i64 G2 65535 = bits .xor .i64 G3 65535 := by
          obtain ⟨q2, rfl⟩ := Int.eq_ofNat_of_zero_le r1.1
          obtain ⟨q3, rfl⟩ := Int.eq_ofNat_of_zero_le r2.1
          have e : (65535 : Int) = ((65535 : Nat) : Int) := rfl
          rw [e, xor64 (show q2 < 65536 by omega) (by decide), xor64 (show q3 < 65536 by omega) (by decide)]
          intro h
          have h' : q2 ^^^ 65535 = q3 ^^^ 65535 := by omega
          exact N2 (by rw [xor_cancel' h'])
        have M1 : (G1 != m) = true := by simpa using N1
        have M3 : (bits .xor .i64 G2 65535 != bits .xor .i64 G3 65535) = true := by simpa using N3
        have K1 := Aside0.mk hG1
        have K2 := Aside0.mk hG2
        have K3 := Aside0.mk hG3
        clear hG1 hG2 hG3 N1 N2 N3 r1 r2
        go_wp2_with fail
        (with_reducible refine (modbus_any _ _ _ _ _ HS7 HXs.out).mono ?_)
        rintro e w' ⟨rfl, rfl⟩
        rw [K1.out]
        go_wp2_with fail
        (with_reducible refine (dnp_any _ _ _ _ _ HS7 HXs.out).mono ?_)
        rintro e w' ⟨rfl, rfl⟩
        rw [K2.out]
        go_wp2_with fail
        (with_reducible refine (dnp_any _ _ _ _ _ (HRw.out.below HB7.out) HX.out).mono ?_)
        rintro e w' ⟨rfl, rfl⟩
        rw [K3.out]
        go_wp2
        go_ret
        exact ⟨rfl, HB7.out⟩
  · go_enter Try.func6, Try.ntmps6
    go_wp2_with fail
    (with_reducible refine (first_any _).mono ?_)
    rintro e w1 ⟨rfl, hb1⟩
    have HB1 := Aside0.mk hb1
    clear hb1
    go_wp2_with fail
    (with_reducible refine (first_any _).mono ?_)
    rintro e w2 ⟨rfl, hb2⟩
    have HB2 := Aside0.mk (below_two HB1.out hb2)
    clear hb2
    go_wp2
    go_ret
    exact ⟨rfl, HB2.out⟩
end Go.Proofs.Ytpbbpdehfdchlaa
