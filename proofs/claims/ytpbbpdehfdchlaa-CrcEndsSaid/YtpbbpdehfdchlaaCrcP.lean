/- The law of texts together over the contracts. Conditions: the arguments read as data. -/
import Derived.Test.YtpbbpdehfdchlaaCrcO
import Derived.StillTailTactics
namespace Go.Proofs.Ytpbbpdehfdchlaa
open Go.RowKit CrcMath Go.Proofs.YtpbbpdehfdchlaaW.PrintWords
set_option linter.unusedVariables false

/-- Three texts together, byte by byte. -/
def zipi : List Int → List Int → List Int → List Int
  | a :: l, b :: m, c :: n => bits .xor .u8 (bits .xor .u8 a b) c :: zipi l m n
  | _, _, _ => []
theorem zipi_length (l : List Int) : ∀ m n : List Int, m.length = l.length → n.length = l.length → (zipi l m n).length = l.length := by
  induction l with
  | nil => intro m n _ _; simp [zipi]
  | cons a l ih =>
    intro m n hm hn
    cases m with
    | nil => simp at hm
    | cons b m => cases n with
      | nil => simp at hn
      | cons c n => simp [zipi, ih m n (by simpa using hm) (by simpa using hn)]
theorem zipi_get (l : List Int) : ∀ (m n : List Int) (k : Nat), m.length = l.length → n.length = l.length → k < l.length → (zipi l m n).getD k 0 = bits .xor .u8 (bits .xor .u8 (l.getD k 0) (m.getD k 0)) (n.getD k 0) := by
  induction l with
  | nil => intro m n k _ _ h; simp at h
  | cons a l ih =>
    intro m n k hm hn hk
    cases m with
    | nil => simp at hm
    | cons b m => cases n with
      | nil => simp at hn
      | cons c n =>
        cases k with
        | zero => rfl
        | succ k => exact ih m n k (by simpa using hm) (by simpa using hn) (by simpa using hk)
theorem zipi_bytes (l : List Int) : ∀ m n : List Int, m.length = l.length → n.length = l.length → Bytes l → Bytes m → Bytes n → Bytes (zipi l m n) ∧ ns (zipi l m n) = zip3 (ns l) (ns m) (ns n) := by
  induction l with
  | nil => intro m n _ _ _ _ _; exact ⟨by intro x hx; simp [zipi] at hx, rfl⟩
  | cons a l ih =>
    intro m n hm hn hl hbm hbn
    cases m with
    | nil => simp at hm
    | cons b m => cases n with
      | nil => simp at hn
      | cons c n =>
        obtain ⟨h1, h2⟩ := ih m n (by simpa using hm) (by simpa using hn) (fun x hx => hl x (by simp [hx])) (fun x hx => hbm x (by simp [hx])) (fun x hx => hbn x (by simp [hx]))
        have ha := hl a (by simp)
        have hb := hbm b (by simp)
        have hc := hbn c (by simp)
        obtain ⟨a, rfl⟩ := Int.eq_ofNat_of_zero_le ha.1
        obtain ⟨b, rfl⟩ := Int.eq_ofNat_of_zero_le hb.1
        obtain ⟨c, rfl⟩ := Int.eq_ofNat_of_zero_le hc.1
        have hab : a ^^^ b < 256 := Nat.xor_lt_two_pow (n := 8) (by omega) (by omega)
        have habc : a ^^^ b ^^^ c < 256 := Nat.xor_lt_two_pow (n := 8) hab (by omega)
        have e : bits .xor .u8 (bits .xor .u8 (a : Int) (b : Int)) (c : Int) = ((a ^^^ b ^^^ c : Nat) : Int) := by rw [xor8 (by omega) (by omega), xor8 hab (by omega)]
        refine ⟨?_, ?_⟩
        · intro x hx
          simp only [zipi, List.mem_cons] at hx
          rcases hx with rfl | hx
          · rw [e]; omega
          · exact h1 x hx
        · show (bits .xor .u8 (bits .xor .u8 (a : Int) (b : Int)) (c : Int)).toNat :: ns (zipi l m n) = _
          rw [e, h2]; rfl
/-- Sums of three texts together. -/
theorem goi_zip (p s : Int) (l m n : List Int) (hm : m.length = l.length) (hn : n.length = l.length) (hl : Bytes l) (hbm : Bytes m) (hbn : Bytes n) (h0 : 0 ≤ s) (h1 : s < 65536) :
    goi p s (zipi l m n) = bits .xor .i64 (bits .xor .i64 (goi p s l) (goi p s m)) (goi p s n) := by
  obtain ⟨hz, hzn⟩ := zipi_bytes l m n hm hn hl hbm hbn
  have hs : s.toNat < 65536 := by omega
  have e := go_zip3 (lo p) (ns l) (ns m) (ns n) s.toNat s.toNat s.toNat (by simpa [ns] using hm) (by simpa [ns] using hn)
  have e0 : s.toNat ^^^ s.toNat ^^^ s.toNat = s.toNat := by rw [Nat.xor_self, Nat.zero_xor]
  rw [e0] at e
  have g1 := go_lt (lo_lt p) (ns l) hs (ns_lt hl)
  have g2 := go_lt (lo_lt p) (ns m) hs (ns_lt hbm)
  have g3 := go_lt (lo_lt p) (ns n) hs (ns_lt hbn)
  rw [goi_nat p _ hz s h0 h1, goi_nat p _ hl s h0 h1, goi_nat p _ hbm s h0 h1, goi_nat p _ hbn s h0 h1, hzn, e, xor64 g1 g2, xor64 (xor_lt16 g1 g2) g3]
/-- The copy, k bytes of it turned. -/
def half (z l : List Int) (k : Nat) : List Int := z.take k ++ l.drop k
theorem half_length (z l : List Int) (k : Nat) (h : z.length = l.length) (hk : k ≤ l.length) : (half z l k).length = l.length := by simp [half]; omega
theorem half_set (z l : List Int) (k : Nat) (h : z.length = l.length) (hk : k < l.length) : (half z l k).set k (z.getD k 0) = half z l (k + 1) := by
  unfold half
  have e : (z.take k).length = k := by simp; omega
  rw [List.set_append_right _ _ (by omega), List.drop_eq_getElem_cons hk, take_next z k (by omega) 0, e, Nat.sub_self, List.append_assoc]
  rfl
theorem half_zero (z l : List Int) : half z l 0 = l := by simp [half]
theorem half_all (z l : List Int) (h : z.length = l.length) : half z l l.length = z := by unfold half; rw [← h, List.take_length, h, List.drop_length, List.append_nil]
theorem xor_tri {a b c : Int} (ha : 0 ≤ a ∧ a < 65536) (hb : 0 ≤ b ∧ b < 65536) (hc : 0 ≤ c ∧ c < 65536) :
    bits .xor .i64 (bits .xor .i64 (bits .xor .i64 a b) c) 65535 = bits .xor .i64 (bits .xor .i64 (bits .xor .i64 a 65535) (bits .xor .i64 b 65535)) (bits .xor .i64 c 65535) := by
  obtain ⟨a, rfl⟩ := Int.eq_ofNat_of_zero_le ha.1
  obtain ⟨b, rfl⟩ := Int.eq_ofNat_of_zero_le hb.1
  obtain ⟨c, rfl⟩ := Int.eq_ofNat_of_zero_le hc.1
  have e : (65535 : Int) = ((65535 : Nat) : Int) := rfl
  have h1 : a < 65536 := by omega
  have h2 : b < 65536 := by omega
  have h3 : c < 65536 := by omega
  have h4 : (65535 : Nat) < 65536 := by decide
  rw [e, xor64 h1 h2, xor64 (xor_lt16 h1 h2) h3, xor64 (xor_lt16 (xor_lt16 h1 h2) h3) h4, xor64 h1 h4, xor64 h2 h4, xor64 h3 h4, xor64 (xor_lt16 h1 h4) (xor_lt16 h2 h4), xor64 (xor_lt16 (xor_lt16 h1 h4) (xor_lt16 h2 h4)) (xor_lt16 h3 h4)]
  congr 1
  apply Nat.eq_of_testBit_eq; intro i
  simp only [Nat.testBit_xor]
  cases a.testBit i <;> cases b.testBit i <;> cases c.testBit i <;> cases (65535 : Nat).testBit i <;> rfl

set_option maxHeartbeats 2000000 in
set_option maxRecDepth 100000 in
theorem crcMixes_walk (A B C : Option Addr) (n m q c d f : Nat) (l k z : List Int) (w : World) (HR : ReadsInt w .u8 A n l) (hb : Bytes l) (HS : ReadsInt w .u8 B m k) (hk : Bytes k) (HT : ReadsInt w .u8 C q z) (hz : Bytes z) :
    Calls Try.prog 8 #[.slice A n c, .slice B m d, .slice C q f] w fun e w' => e = .returned (.bool true) ∧ Below w.heap.size w w' := by
  have hm := HR.2.1
  have hm2 := HS.2.1
  have hm3 := HT.2.1
  have HL := Aside0.mk HR.1
  by_cases hgo : n ≤ 20000 ∧ m = n ∧ q = n
  · obtain ⟨hlen, rfl, rfl⟩ := hgo
    have HK1 : k.length = l.length := by rw [HS.1, HR.1]
    have HK2 : z.length = l.length := by rw [HT.1, HR.1]
    have HZ := Aside0.mk (zipi_length l k z HK1 HK2)
    have HG := Aside0.mk (fun j => zipi_get l k z j HK1 HK2)
    have HZB := Aside0.mk (zipi_bytes l k z HK1 HK2 hb hk hz).1
    have HM := Aside0.mk (goi_zip 40961 65535 l k z HK1 HK2 hb hk hz (by decide) (by decide))
    have HD := Aside0.mk (goi_zip 42684 0 l k z HK1 HK2 hb hk hz (by decide) (by decide))
    have HD2 := Aside0.mk (xor_tri (goi_range 42684 0 l hb (by decide) (by decide)) (goi_range 42684 0 k hk (by decide) (by decide)) (goi_range 42684 0 z hz (by decide) (by decide)))
    have HRw := Aside0.mk HR
    have HSw := Aside0.mk HS
    have HTw := Aside0.mk HT
    have B1 := Aside0.mk hb
    have B2 := Aside0.mk hk
    have B3 := Aside0.mk hz
    have hd1 : decide ((20000 : Int) < (q : Int)) = false := by simp; omega
    clear HR HS HT hb hk hz HK1 HK2
    go_enter Try.func8, Try.ntmps8
    go_wp2_with fail
    (with_reducible refine (first_any _).mono ?_)
    rintro e w1 ⟨rfl, hb1⟩
    have HB1 := Aside0.mk hb1
    clear hb1
    go_wp2_with fail
    (with_reducible refine (copyBytes_any A q c l w1 (HRw.out.below HB1.out) (by omega)).mono ?_)
    rintro e w2 ⟨v2, rfl, ho2, hb2⟩
    have HB2 := Aside0.mk (below_two HB1.out hb2)
    have HO2 := Aside0.mk (own_weaken ho2 HB1.out.size)
    rw [HL.out] at HO2
    obtain ⟨A2, c2, rfl⟩ := own_slice HO2.out
    clear hb2 ho2 HB1
    go_wp2
    go_loopw [8] (fun i wr => ∃ j : Nat, j ≤ q ∧ i = .int .i64 j ∧ Aside0 (wr.ownsRow w.heap.size 5 1 (.slice A2 q c2) q (nums .u8 (half (zipi l k z) l j))) ∧ Aside0 (Below w.heap.size w wr)) (fun i _ => q - (intOf i).toNat)
    case atStart => exact ⟨0, Nat.zero_le _, rfl, by rw [half_zero]; exact HO2, HB2⟩
    case round =>
      obtain ⟨j, hj, rfl, HO, HB⟩ := hrel
      by_cases hlt : j < q
      · obtain ⟨ad1, rfl, hc1⟩ := (HRw.out.below HB.out).at_ j (by omega) (by omega)
        obtain ⟨ad2, rfl, hc2⟩ := (HSw.out.below HB.out).at_ j (by omega) (by omega)
        obtain ⟨ad3, rfl, hc3⟩ := (HTw.out.below HB.out).at_ j (by omega) (by omega)
        have hc1' : wr.cell? (ad1.add j) = some (.int .u8 (l.getD j 0)) := hc1
        have hc2' : wr.cell? (ad2.add j) = some (.int .u8 (k.getD j 0)) := hc2
        have hc3' : wr.cell? (ad3.add j) = some (.int .u8 (z.getD j 0)) := hc3
        obtain ⟨g, cap, e2, hgb, hgl⟩ := HO.out.form (by omega)
        injection e2 with e2a _ e2c
        subst e2a e2c
        have hcell := own_at HO.out (j : Int) (by omega) (by omega)
        rw [Int.toNat_natCast] at hcell
        obtain ⟨hcd, hfr⟩ := hcell
        have hg1 := HG.out j (by rw [HL.out]; exact hlt)
        obtain ⟨x1, hx1⟩ : ∃ x, l.getD j 0 = x := ⟨_, rfl⟩
        obtain ⟨x2, hx2⟩ : ∃ x, k.getD j 0 = x := ⟨_, rfl⟩
        obtain ⟨x3, hx3⟩ : ∃ x, z.getD j 0 = x := ⟨_, rfl⟩
        obtain ⟨x4, hx4⟩ : ∃ x, (zipi l k z).getD j 0 = x := ⟨_, rfl⟩
        rw [hx1, hx2, hx3, hx4] at hg1
        rw [hx1] at hc1'
        rw [hx2] at hc2'
        rw [hx3] at hc3'
        have HG1 := Aside0.mk hg1
        have HX4 := Aside0.mk hx4
        clear hc1 hc2 hc3 hg1 hx1 hx2 hx3 hx4
        go_wp2
        go_still_tail 16, (by kernel_rfl)
        change wpList _ _ _ _ _ wr.drew
        rw [← HG1.out]
        have hst := own_store HO.out (j : Int) x4
        rw [Int.toNat_natCast] at hst
        have HO2 := Aside0.mk hst.1
        have HB2' := Aside0.mk (HB.out.setCell (p := ⟨g, j, none⟩) hgb (.int .u8 x4))
        clear hst
        go_wp2
        go_roundw
        case rel => exact ⟨j + 1, by omega, by go_num, ⟨by rw [← half_set _ _ _ HZ.out (by rw [HL.out]; exact hlt), HX4.out]; exact HO2.out⟩, ⟨below_drew HB2'.out⟩⟩
        case measure => simp [intOf]; omega
      · obtain rfl : j = q := by omega
        have HF := Aside0.mk (show half (zipi l k z) l j = zipi l k z by rw [← HL.out]; exact half_all _ _ HZ.out)
        have HOf := HO.out
        rw [HF.out] at HOf
        obtain ⟨A9, c9, e9, HS9⟩ := own_reads HOf
        injection e9 with e9a _ e9c
        subst e9a e9c
        clear HOf HO HO2 HB2 hlt hj
        go_wp2_with fail
        (with_reducible refine (first_any _).mono ?_)
        rintro e w3 ⟨rfl, hb3⟩
        have HB3 := Aside0.mk (below_two HB.out hb3)
        have HS3 := HS9.below hb3
        clear hb3 HS9
        go_wp2_with fail
        (with_reducible refine (modbus_any _ _ _ _ _ HS3 HZB.out).mono ?_)
        rintro e w' ⟨rfl, rfl⟩
        rw [HM.out]
        go_wp2_with fail
        (with_reducible refine (modbus_any _ _ _ _ _ (HRw.out.below HB3.out) B1.out).mono ?_)
        rintro e w' ⟨rfl, rfl⟩
        go_wp2_with fail
        (with_reducible refine (modbus_any _ _ _ _ _ (HSw.out.below HB3.out) B2.out).mono ?_)
        rintro e w' ⟨rfl, rfl⟩
        go_wp2_with fail
        (with_reducible refine (modbus_any _ _ _ _ _ (HTw.out.below HB3.out) B3.out).mono ?_)
        rintro e w' ⟨rfl, rfl⟩
        go_wp2_with fail
        (with_reducible refine (dnp_any _ _ _ _ _ HS3 HZB.out).mono ?_)
        rintro e w' ⟨rfl, rfl⟩
        rw [HD.out, HD2.out]
        go_wp2_with fail
        (with_reducible refine (dnp_any _ _ _ _ _ (HRw.out.below HB3.out) B1.out).mono ?_)
        rintro e w' ⟨rfl, rfl⟩
        go_wp2_with fail
        (with_reducible refine (dnp_any _ _ _ _ _ (HSw.out.below HB3.out) B2.out).mono ?_)
        rintro e w' ⟨rfl, rfl⟩
        go_wp2_with fail
        (with_reducible refine (dnp_any _ _ _ _ _ (HTw.out.below HB3.out) B3.out).mono ?_)
        rintro e w' ⟨rfl, rfl⟩
        go_wp2
        go_ret
        exact ⟨by simp, HB3.out⟩
  · by_cases hlen : n ≤ 20000
    · by_cases hmn : m = n
      · have hd1 : decide ((20000 : Int) < (n : Int)) = false := by simp; omega
        have hd2 : ((q : Int) != (n : Int)) = true := by rw [bne_iff_ne]; omega
        clear hgo
        subst hmn
        go_enter Try.func8, Try.ntmps8
        go_wp2_with fail
        (with_reducible refine (first_any _).mono ?_)
        rintro e w1 ⟨rfl, hb1⟩
        have HB1 := Aside0.mk hb1
        clear hb1
        go_wp2_with fail
        (with_reducible refine (first_any _).mono ?_)
        rintro e w2 ⟨rfl, hb2⟩
        have HB2 := Aside0.mk (below_two HB1.out hb2)
        clear hb2
        go_wp2
        go_ret
        exact ⟨rfl, HB2.out⟩
      · have hd1 : decide ((20000 : Int) < (n : Int)) = false := by simp; omega
        have hd2 : ((m : Int) != (n : Int)) = true := by rw [bne_iff_ne]; omega
        clear hgo hmn
        go_enter Try.func8, Try.ntmps8
        go_wp2_with fail
        (with_reducible refine (first_any _).mono ?_)
        rintro e w1 ⟨rfl, hb1⟩
        have HB1 := Aside0.mk hb1
        clear hb1
        go_wp2_with fail
        (with_reducible refine (first_any _).mono ?_)
        rintro e w2 ⟨rfl, hb2⟩
        have HB2 := Aside0.mk (below_two HB1.out hb2)
        clear hb2
        go_wp2
        go_ret
        exact ⟨rfl, HB2.out⟩
    · have hd1 : decide ((20000 : Int) < (n : Int)) = true := by simp; omega
      clear hgo
      go_enter Try.func8, Try.ntmps8
      go_wp2_with fail
      (with_reducible refine (first_any _).mono ?_)
      rintro e w1 ⟨rfl, hb1⟩
      have HB1 := Aside0.mk hb1
      clear hb1
      go_wp2_with fail
      (with_reducible refine (first_any _).mono ?_)
      rintro e w2 ⟨rfl, hb2⟩
      have HB2 := Aside0.mk (below_two HB1.out hb2)
      clear hb2
      go_wp2
      go_ret
      exact ⟨rfl, HB2.out⟩
end Go.Proofs.Ytpbbpdehfdchlaa
