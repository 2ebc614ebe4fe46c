/- Select before operate: any calls, the program's box beside the reference's. Conditions: the arguments read as data. -/
import Derived.Test.YtoieognhjebcpaaSboG
import Derived.Deep.RegionHeld3
namespace Go.Proofs.Ytoieognhjebcpaa
open Go.RowKit SboMath Go.Proofs.YtoieognhjebcpaaW.PrintWords
set_option linter.unusedVariables false

/-- Both boxes tell the same. -/
def Alike (x y : Bx) : Prop := x.ticks = y.ticks ∧ x.is = y.is ∧ (x.is = true → x.at_ = y.at_ ∧ x.seq = y.seq ∧ x.b = y.b)
theorem alike_live {x y : Bx} (h : Alike x y) (now : Int) : x.live now = y.live now := by
  obtain ⟨h1, h2, h3⟩ := h
  unfold Bx.live
  cases hi : y.is
  · rw [hi] at h2; rw [h2]; rfl
  · rw [hi] at h2; obtain ⟨h4, _, _⟩ := h3 h2; rw [h2, h4, h1]
theorem alike_hit {x y : Bx} (h : Alike x y) (now seq : Int) (l : List Int) : x.hit now seq l = y.hit now seq l := by
  have hl := alike_live h now
  obtain ⟨h1, h2, h3⟩ := h
  unfold Bx.hit
  rw [hl]
  cases hi : y.is
  · have : y.live now = false := by unfold Bx.live; rw [hi]; rfl
    rw [this]; rfl
  · rw [hi] at h2; obtain ⟨h4, h5, h6⟩ := h3 h2; rw [h5, h6]
theorem alike_new (t : Int) : Alike (Bx.new t) (Bx.new t) := ⟨rfl, rfl, fun _ => ⟨rfl, rfl, rfl⟩⟩
theorem alike_sel {x y : Bx} (h : Alike x y) (now seq : Int) (l : List Int) : Alike (x.sel now seq l) (y.sel now seq l) := ⟨h.1, rfl, fun _ => ⟨rfl, rfl, rfl⟩⟩
theorem alike_void {x y : Bx} (h : Alike x y) : Alike x.void y.off := ⟨h.1, rfl, fun h => by cases h⟩
theorem alike_matched {x y : Bx} (h : Alike x y) (b : Bool) : Alike (x.matched b) (y.matchedR b) := by
  cases b
  · exact h
  · exact alike_void h

theorem own_chg {w w1 : World} {B n g : Nat} {v : Value} {xs : List Value} {cs : Array Value} {t : Nat} (h : w.ownsRow B 5 1 v n xs) (hg : w.heap[g]? = some (.cells cs t (0, 0))) (ht : 5 ≠ t) (hc : Chg g w w1) : w1.ownsRow B 5 1 v n xs := by
  have hvb := own_ne h hg ht
  refine ⟨h.1, ?_⟩
  rcases h.2 with h0 | ⟨gb, cap, cur, rfl, hb, hh, q⟩
  · exact .inl h0
  · refine .inr ⟨gb, cap, cur, rfl, hb, ?_, q⟩
    rw [hc.block gb (blk_lt hh) (fun e => hvb (by rw [e]; rfl))]; exact hh
theorem IsRef.below {B : Nat} {w w1 : World} {g : Nat} {x : Bx} (h : IsRef B w g x) (hb : Below w.heap.size w w1) : IsRef B w1 g x := by
  obtain ⟨v, hg, hv, r⟩ := h
  exact ⟨v, (hb.block g (blk_lt hg)).trans hg, pw_own_below hv hb, r⟩
/-- The reference's box, when the program's turns; and the other way. -/
theorem IsRef.chgBox {B : Nat} {w w1 : World} {g q : Nat} {x y : Bx} (h : IsRef B w q y) (hx : IsBox B w g x) (hc : Chg g w w1) : IsRef B w1 q y ∧ (∀ R, RowFrom R w q → RowFrom R w1 q) := by
  obtain ⟨v, hg, hv, r⟩ := h
  obtain ⟨v1, hg1, _⟩ := hx
  have hne : q ≠ g := blk_ne hg hg1 (by decide)
  have he := hc.block q (blk_lt hg) hne
  exact ⟨⟨v, he.trans hg, own_chg hv hg1 (by decide) hc, r⟩, fun R hr cs t u h1 => hr cs t u (he ▸ h1)⟩
theorem IsBox.chgRef {B : Nat} {w w1 : World} {g q : Nat} {x y : Bx} (h : IsBox B w g x) (hy : IsRef B w q y) (hc : Chg q w w1) : IsBox B w1 g x ∧ (∀ R, RowFrom R w g → RowFrom R w1 g) := by
  obtain ⟨v, hg, hv, r⟩ := h
  obtain ⟨v1, hg1, _⟩ := hy
  have hne : g ≠ q := blk_ne hg hg1 (by decide)
  have he := hc.block g (blk_lt hg) hne
  exact ⟨⟨v, he.trans hg, own_chg hv hg1 (by decide) hc, r⟩, fun R hr cs t u h1 => hr cs t u (he ▸ h1)⟩
theorem IsRef.aside {B R : Nat} {w w1 : World} {g gi : Nat} {x : Bx} (h : IsRef B w g x) (hr : RowFrom R w g) (hc : Chg gi w w1) (h1 : gi < R) (h2 : g ≠ gi) : IsRef B w1 g x ∧ RowFrom R w1 g := by
  obtain ⟨v, hg, hv, r⟩ := h
  have hg1 := (hc.block g (blk_lt hg) h2).trans hg
  refine ⟨⟨v, hg1, ⟨hv.1, ?_⟩, r⟩, ?_⟩
  · rcases hv.2 with h0 | ⟨gb, cap, cur, rfl, hb, hh, q⟩
    · exact .inl h0
    · refine .inr ⟨gb, cap, cur, rfl, hb, ?_, q⟩
      have := hr _ _ _ hg rfl gb rfl
      rw [hc.block gb (blk_lt hh) (by omega)]; exact hh
  · intro cs t u h3
    rw [hg1] at h3
    exact hr cs t u (hg.trans h3)
/-- A block of the operation at hand. -/
def IsOp (w : World) (r : Nat) (o : Op) (A : Option Addr) (c : Nat) : Prop := w.heap[r]? = some (.cells #[.int .i64 o.Kind, .int .i64 o.Now, .int .i64 o.Seq, .slice A o.B.length c] 37 (0, 0))
theorem IsOp.below {w w1 : World} {r : Nat} {o : Op} {A : Option Addr} {c : Nat} (h : IsOp w r o A c) (hb : Below w.heap.size w w1) : IsOp w1 r o A c := (hb.block r (blk_lt h)).trans h
theorem IsOp.box {B : Nat} {w w1 : World} {r g : Nat} {o : Op} {A : Option Addr} {c : Nat} {x : Bx} (h : IsOp w r o A c) (hx : IsBox B w g x) (hc : Chg g w w1) : IsOp w1 r o A c := by
  obtain ⟨v1, hg1, _⟩ := hx
  exact (hc.block r (blk_lt h) (blk_ne h hg1 (by decide))).trans h
theorem IsOp.ref {B : Nat} {w w1 : World} {r g : Nat} {o : Op} {A : Option Addr} {c : Nat} {x : Bx} (h : IsOp w r o A c) (hx : IsRef B w g x) (hc : Chg g w w1) : IsOp w1 r o A c := by
  obtain ⟨v1, hg1, _⟩ := hx
  exact (hc.block r (blk_lt h) (blk_ne h hg1 (by decide))).trans h

theorem quietLiveBox {B g : Nat} {x : Bx} {now : Int} {w : World} {n : Nat} (hx : IsBox B w g x) (b : Bool) (hb : x.live now = b) :
    Calls Try.prog 13 #[.pointer (some ⟨g, 0, none⟩), .int .i64 now] (w.drewN n) fun e w'' => e = .returned (.bool b) ∧ ∃ m, w'' = w.drewN m := quiet_draws (live_any B g x now _ (hx.drewN n) b hb)
theorem IsOp.c1 {w : World} {r : Nat} {o : Op} {A : Option Addr} {c : Nat} (h : IsOp w r o A c) : w.cell? ⟨r, 1, none⟩ = some (.int .i64 o.Now) := blk_cell h 1
theorem IsOp.c2 {w : World} {r : Nat} {o : Op} {A : Option Addr} {c : Nat} (h : IsOp w r o A c) : w.cell? ⟨r, 2, none⟩ = some (.int .i64 o.Seq) := blk_cell h 2
theorem IsOp.c3 {w : World} {r : Nat} {o : Op} {A : Option Addr} {c : Nat} (h : IsOp w r o A c) : w.cell? ⟨r, 3, none⟩ = some (.slice A o.B.length c) := blk_cell h 3

theorem bytes_same (A B : Option Addr) (n m c d : Nat) (l : List Int) (w : World) (HR : ReadsInt w .u8 A n l) (HS : ReadsInt w .u8 B m l) (hl : Bytes l) :
    Calls Try.prog 11 #[.slice A n c, .slice B m d] w (BoolPost true w) := by
  have h := bytes_any A B n m c d l l w HR HS hl hl
  rwa [decide_eq_true (rfl : l = l)] at h
theorem refGe {B : Nat} {w : World} {q : Nat} {y : Bx} (h : IsRef B w q y) : B ≤ q := by obtain ⟨v, _, _, h, _⟩ := h; exact h
/-- The copied bytes read as they were, when both boxes have turned. -/
theorem HSb {B n c : Nat} {w w1 w2 : World} {A : Option Addr} {l : List Int} {R : Nat} {g q : Nat} {x y : Bx} (hv : w.ownsRow R 5 1 (.slice A n c) n (nums .u8 l)) (hx : IsBox B w g x) (hc : Chg g w w1) (hy : IsRef B w q y) (hc2 : Chg q w1 w2) : ReadsInt w2 .u8 A n l := by
  have h1 : w1.ownsRow R 5 1 (.slice A n c) n (nums .u8 l) := by obtain ⟨v1, hg1, _⟩ := hx; exact own_chg hv hg1 (by decide) hc
  have h2 : w2.ownsRow R 5 1 (.slice A n c) n (nums .u8 l) := by obtain ⟨v1, hg1, _⟩ := (hy.chgBox hx hc).1; exact own_chg h1 hg1 (by decide) hc2
  obtain ⟨A', c', e, hr⟩ := own_reads h2
  injection e with e1 _ _
  subst e1
  exact hr
/-- The slice that the inner loop writes: bytes of its own. -/
def InRow2 (B : Nat) (w : World) (A : Option Addr) (n c : Nat) : Prop := ∃ l', w.ownsRow B 5 1 (.slice A n c) n (nums .u8 l') ∧ Bytes l'


set_option maxHeartbeats 4000000 in
set_option maxRecDepth 100000 in
theorem sboPlays_walk (ticks : Int) (A : Option Addr) (n c : Nat) (l : List Op) (w : World) (HL : kdK_yardlaw20_Op.C w A n l) (hok : ∀ o ∈ l, okK_yardlaw20_Op o) :
    Calls Try.prog 5 #[.int .i64 ticks, .slice A n c] w fun e w' => e = .returned (.bool true) ∧ Below w.heap.size w w' := by
  have hn : n ≤ 9223372036854775807 := HL.2.1
  have HLn := Aside0.mk (show l.length = n from HL.1)
  have HL0 := Aside0.mk HL
  have HOK := Aside0.mk hok
  clear HL hok
  cases hf : fewB l
  · have HE := Aside0.mk hf
    clear hf
    go_enter Try.func5, Try.ntmps5
    go_wp2_with fail
    (with_reducible refine (first_any _).mono ?_)
    rintro e w1 ⟨rfl, hb⟩
    have HB1 := Aside0.mk hb
    clear hb
    go_wp2_with fail
    (with_reducible refine (new_any w.heap.size ticks _ HB1.out.size).mono ?_)
    rintro e w2 ⟨g, rfl, hx, hg, hb⟩
    have HB2 := Aside0.mk (below_two HB1.out hb)
    have HL2 := Aside0.mk (Kd.C_below HL0.out HB2.out)
    clear hx hb hg
    go_wp2_with fail
    (with_reducible refine (few_any A n c l _ HL2.out).mono ?_)
    rintro e w' ⟨rfl, rfl⟩
    rw [HE.out]
    go_wp2_with fail
    (with_reducible refine (first_any _).mono ?_)
    rintro e w3 ⟨rfl, hb⟩
    have HB3 := Aside0.mk (below_two HB2.out hb)
    clear hb
    go_wp2
    go_ret
    exact ⟨rfl, HB3.out⟩
  · have HF := Aside0.mk (few_small hf)
    have HE := Aside0.mk hf
    clear hf
    go_enter Try.func5, Try.ntmps5
    go_wp2_with fail
    (with_reducible refine (first_any _).mono ?_)
    rintro e w1 ⟨rfl, hb⟩
    have HB1 := Aside0.mk hb
    clear hb
    go_wp2_with fail
    (with_reducible refine (new_any w.heap.size ticks _ HB1.out.size).mono ?_)
    rintro e w2 ⟨g, rfl, hx, hg, hb⟩
    have X2 := Aside0.mk hx
    have HB2 := Aside0.mk (below_two HB1.out hb)
    have HL2 := Aside0.mk (Kd.C_below HL0.out HB2.out)
    clear hx hb hg
    go_wp2_with fail
    (with_reducible refine (few_any A n c l _ HL2.out).mono ?_)
    rintro e w' ⟨rfl, rfl⟩
    rw [HE.out]
    go_wp2_with fail
    (with_reducible refine (newRef_any w.heap.size ticks _ HB2.out.size).mono ?_)
    rintro e w3 ⟨q, rfl, hy, hg, hb⟩
    have Y3 := Aside0.mk hy
    have X3 := Aside0.mk (X2.out.below hb)
    have HB3 := Aside0.mk (below_two HB2.out hb)
    clear hy hb hg HL2 X2
    go_wp2
    go_loopw [5, 7] (fun p i wr => ∃ (j g : Nat) (X Y : Bx), j ≤ n ∧ i = .int .i64 j ∧ p = .pointer (some ⟨g, 0, none⟩) ∧ Aside0 (IsBox w.heap.size wr g X) ∧ Aside0 (IsRef w.heap.size wr q Y) ∧ Aside0 (Alike X Y) ∧ Aside0 (X.b.length ≤ 6000) ∧ Aside0 (Below w.heap.size w wr)) (fun _ i _ => n - (intOf i).toNat)
    case atStart => exact ⟨0, g, _, _, Nat.zero_le _, rfl, rfl, X3, Y3, ⟨alike_new ticks⟩, ⟨by simp [Bx.new]⟩, HB3⟩
    case round =>
      clear X3 Y3 HB3
      obtain ⟨j, g, X, Y, hj, rfl, rfl, HX, HY, HA, HS, HB⟩ := hrel
      by_cases hlt : j < n
      · obtain ⟨ad, A3, c3, rfl, k0, k1, k2, k3, l3, g3⟩ := K_yardlaw20_Op_at HL0.out j (by omega) (by omega)
        rw [Int.toNat_natCast] at k0 k1 k2 k3 l3 g3
        replace k0 := pw_cell_below HB.out k0
        replace k1 := pw_cell_below HB.out k1
        replace k2 := pw_cell_below HB.out k2
        replace k3 := pw_cell_below HB.out k3
        have hmem := getD_op l j (by rw [HLn.out]; exact hlt)
        obtain ⟨o, ho⟩ : ∃ o, l.getD j zK_yardlaw20_Op = o := ⟨_, rfl⟩
        rw [ho] at k0 k1 k2 k3 l3 g3 hmem
        have hsm := HF.out.2 o hmem
        have hwf := HOK.out o hmem
        have HBy := Aside0.mk (show Bytes o.B from fun x hx => wf_byte (hwf.2.2.2 x hx))
        have HRw := Aside0.mk (reads_int g3)
        have HR := Aside0.mk (HRw.out.below HB.out)
        clear ho hmem hwf g3 l3
        have O4 := Aside0.mk (show IsOp (wr.alloc (.cells #[.int .i64 o.Kind, .int .i64 o.Now, .int .i64 o.Seq, .slice A3 o.B.length c3] 37)) wr.heap.size o A3 c3 from heap_alloc_new wr _)
        have B4 := Aside0.mk (below_alloc (Below.refl wr.heap.size wr) (.cells #[.int .i64 o.Kind, .int .i64 o.Now, .int .i64 o.Seq, .slice A3 o.B.length c3] 37))
        have HR4 := Aside0.mk (HR.out.below B4.out)
        go_wp2_with fail
        (with_reducible refine (copyBytes_any A3 _ c3 o.B _ HR4.out (by omega)).mono ?_)
        rintro e w5 ⟨v5, rfl, ho5, hb⟩
        have O5 := Aside0.mk (O4.out.below hb)
        have B5 := Aside0.mk (below_two B4.out hb)
        have HB5 := Aside0.mk (below_two HB.out B5.out)
        have X5 := Aside0.mk (HX.out.below B5.out)
        have Y5 := Aside0.mk (HY.out.below B5.out)
        have HV5 := Aside0.mk ho5
        obtain ⟨A5, c5, rfl, hs5⟩ := own_reads ho5
        have HS5 := Aside0.mk hs5
        have HC5 := Aside0.mk (show ∀ k, (Value.slice A5 o.B.length c5).ownBlock = some k → wr.heap.size + 1 ≤ k ∧ k < w5.heap.size from fun k hk => ⟨by have := own_base ho5 k hk; simpa using this, own_lt ho5 k hk⟩)
        have hgr : g < wr.heap.size := HX.out.lt
        have hqr : q < wr.heap.size := by obtain ⟨v, hg, _⟩ := HY.out; exact blk_lt hg
        clear hb ho5 hs5 k0 k1 k2 k3 O4 B4 HR4 HX HY
        have d0 : w5.cell? ⟨wr.heap.size, 0, none⟩ = some (.int .i64 o.Kind) := blk_cell O5.out 0
        have d1 := (O5.out).c1
        have d2 := (O5.out).c2
        have d3 := (O5.out).c3
        by_cases t0 : o.Kind = 0
        · have e0 : (o.Kind == 0) = true := by simp [t0]
          clear t0
          go_wp2_with fail
          (with_reducible refine (select_from w.heap.size g _ o.Now o.Seq _ _ _ o.B _ X5.out HS5.out HBy.out (by omega) HB5.out.size).mono ?_)
          rintro e w6 ⟨rfl, hx, hc, hr⟩
          have X6 := Aside0.mk hx
          have RX6 := Aside0.mk hr
          have hsz65 : w5.heap.size ≤ w6.heap.size := hc.size
          have Y6 := Aside0.mk (Y5.out.chgBox X5.out hc).1
          have O6 := Aside0.mk (O5.out.box X5.out hc)
          have HB6 := Aside0.mk (below_chg HB5.out hc X5.out.ge)
          have HV6 := Aside0.mk (show w6.ownsRow (wr.heap.size + 1) 5 1 (.slice A5 o.B.length c5) o.B.length (nums .u8 o.B) by
            obtain ⟨v1, hg1, _⟩ := X5.out
            exact own_chg (own_weaken HV5.out (by simp)) hg1 (by decide) hc)
          clear hx hc hr d0 d1 d2 d3
          have d1 := (O6.out).c1
          have d2 := (O6.out).c2
          have d3 := (O6.out).c3
          go_wp2_with fail
          (with_reducible refine (selectRef_any w.heap.size q _ o.Now o.Seq _ _ _ o.B _ Y6.out (HRw.out.below HB6.out) HBy.out (by omega) HB6.out.size).mono ?_)
          rintro e w7 ⟨rfl, hy, hc, hr⟩
          have X7 := Aside0.mk (And.intro (X6.out.chgRef Y6.out hc).1 ((X6.out.chgRef Y6.out hc).2 _ RX6.out))
          have Y7 := Aside0.mk (And.intro hy hr)
          have O7 := Aside0.mk (O6.out.ref Y6.out hc)
          have hqw : w.heap.size ≤ q := by obtain ⟨v, _, _, h, _⟩ := Y6.out; exact h
          have HB7 := Aside0.mk (below_chg HB6.out hc hqw)
          have HV7 := Aside0.mk (show InRow2 (wr.heap.size + 1) w7 A5 o.B.length c5 by
            obtain ⟨v1, hg1, _⟩ := Y6.out
            exact ⟨o.B, own_chg HV6.out hg1 (by decide) hc, HBy.out⟩)
          clear hy hc hr d1 d2 d3
          obtain ⟨L, hL⟩ : ∃ L, o.B.length = L := ⟨_, rfl⟩
          have HLn2 := Aside0.mk hL
          rw [hL] at HV7 HC5 hsm ⊢
          clear X6 RX6 Y6 O6 HB6 HV6 hL
          go_wp2
          obtain ⟨wo, rfl⟩ : ∃ wo : World, wo = wr := ⟨_, rfl⟩
          go_loopw [11] (fun i wi => ∃ m : Nat, m ≤ L ∧ i = .int .i64 m ∧ Aside0 (InRow2 (wo.heap.size + 1) wi A5 L c5) ∧ Aside0 (IsBox w.heap.size wi g (X.sel o.Now o.Seq o.B) ∧ RowFrom w5.heap.size wi g) ∧ Aside0 (IsRef w.heap.size wi q (Y.sel o.Now o.Seq o.B) ∧ RowFrom w6.heap.size wi q) ∧ Aside0 (IsOp wi wo.heap.size o A3 c3) ∧ Aside0 (Below w.heap.size w wi)) (fun i _ => L - (intOf i).toNat)
          case atStart => exact ⟨0, Nat.zero_le _, rfl, HV7, X7, Y7, O7, HB7⟩
          case round =>
            clear X7 Y7 O7 HB7 HV7
            obtain ⟨m, hm, rfl, HV, HXI, HYI, HOI, HBI⟩ := hrel
            by_cases hml : m < L
            · obtain ⟨l', ho, hbl⟩ := HV.out
              obtain ⟨gi, cap, e2, hgb, hgi⟩ := ho.form (by omega)
              injection e2 with e2a _ e2c
              subst e2a e2c
              have hgi3 := HC5.out gi rfl
              have hlen : l'.length = L := by have := ho.1; simp [nums] at this; exact this
              have hcell := own_at ho (m : Int) (by omega) (by omega)
              rw [Int.toNat_natCast] at hcell
              obtain ⟨hcd, hfr⟩ := hcell
              have hr := rd_bytes hbl m (by omega)
              obtain ⟨x, hx⟩ : ∃ x, rd l' m = x := ⟨_, rfl⟩
              rw [hx] at hcd hr
              obtain ⟨hx0, hx1⟩ := hr
              have hst := own_store ho (m : Int) ((x + 1) % 256)
              rw [Int.toNat_natCast] at hst
              have hcg := (Chg.refl gi wr).set m (.int .u8 ((x + 1) % 256))
              have HV2 := Aside0.mk (show InRow2 (wo.heap.size + 1) (wr.setCell ⟨gi, m, none⟩ (.int .u8 ((x + 1) % 256))) (some ⟨gi, 0, none⟩) L c5 from ⟨_, hst.1, bytes_set hbl m _ (by omega) (by omega)⟩)
              have HX2 := Aside0.mk (HXI.out.1.aside HXI.out.2 hcg hgi3.2 (by omega))
              have HY2 := Aside0.mk (HYI.out.1.aside HYI.out.2 hcg (by omega) (by omega))
              have HO2 := Aside0.mk (show IsOp (wr.setCell ⟨gi, m, none⟩ (.int .u8 ((x + 1) % 256))) wo.heap.size o A3 c3 from (hcg.block _ (blk_lt HOI.out) (by omega)).trans HOI.out)
              have HB2' := Aside0.mk (HBI.out.setCell (p := ⟨gi, m, none⟩) (by have := HB.out.size; show w.heap.size ≤ gi; omega) (.int .u8 ((x + 1) % 256)))
              clear ho hst hx hbl hlen hcg
              go_wp2
              go_roundw
              case rel => exact ⟨m + 1, by omega, by go_num, HV2, HX2, HY2, HO2, HB2'⟩
              case measure => simp [intOf]; omega
            · have X8 := Aside0.mk HXI.out.1
              have Y8 := Aside0.mk HYI.out.1
              have AL := Aside0.mk (alike_sel HA.out o.Now o.Seq o.B)
              have SZ := Aside0.mk (show (X.sel o.Now o.Seq o.B).b.length ≤ 6000 by show o.B.length ≤ 6000; rw [HLn2.out]; exact hsm)
              have O8 := HOI
              have HB8 := HBI
              clear HXI HYI HOI HBI HV
              have d1 := (O8.out).c1
              obtain ⟨b, hbx⟩ : ∃ b, Bx.live (X.sel o.Now o.Seq o.B) o.Now = b := ⟨_, rfl⟩
              have HLX := Aside0.mk hbx
              have HLY := Aside0.mk (show Bx.live (Y.sel o.Now o.Seq o.B) o.Now = b by rw [← hbx]; exact (alike_live AL.out o.Now).symm)
              clear hbx
              go_wp2_with fail
              go_quiet (first | (go_at_call 13; exact quietLiveBox X8.out b HLX.out) | (go_at_call 21; exact quietLive Y8.out b HLY.out))
              go_wp2
              go_roundw
              case rel => exact ⟨j + 1, g, _, _, by omega, by go_num, rfl, ⟨X8.out.drewN _⟩, ⟨Y8.out.drewN _⟩, AL, SZ, ⟨pw_below_drewN HB8.out _⟩⟩
              case measure => simp [intOf]; omega
        · have e0 : (o.Kind == 0) = false := by simp [t0]
          have SZ := HS
          by_cases t1 : o.Kind = 1
          · have e1 : (o.Kind == 1) = true := by simp [t1]
            clear t0 t1
            obtain ⟨b0, hb0⟩ : ∃ b, X.hit o.Now o.Seq o.B = b := ⟨_, rfl⟩
            have HHX := Aside0.mk hb0
            have HHY := Aside0.mk (show Y.hit o.Now o.Seq o.B = b0 by rw [← hb0]; exact (alike_hit HA.out o.Now o.Seq o.B).symm)
            clear hb0
            go_wp2_with fail
            have O5d := Aside0.mk (show IsOp w5.drew wr.heap.size o A3 c3 from O5.out)
            have X5d := Aside0.mk (show IsBox w.heap.size w5.drew g X from X5.out)
            have Y5d := Aside0.mk (show IsRef w.heap.size w5.drew q Y from Y5.out)
            have HB5d := Aside0.mk (below_drew HB5.out)
            have HV5d := Aside0.mk (show w5.drew.ownsRow _ 5 1 (.slice A5 o.B.length c5) o.B.length (nums .u8 o.B) from HV5.out)
            go_region_held3 (fun w' => w'.cell? ⟨wr.heap.size, 1, none⟩ = some (.int .i64 o.Now) ∧ w'.cell? ⟨wr.heap.size, 2, none⟩ = some (.int .i64 o.Seq) ∧ w'.cell? ⟨wr.heap.size, 3, none⟩ = some (.slice A3 o.B.length c3))
              (first | exact ⟨d1, d2, d3⟩ | exact ⟨(O5d.out.box X5d.out hc).c1, (O5d.out.box X5d.out hc).c2, (O5d.out.box X5d.out hc).c3⟩ | exact ⟨((O5d.out.box X5d.out hc).ref (Y5d.out.chgBox X5d.out hc).1 hc2).c1, ((O5d.out.box X5d.out hc).ref (Y5d.out.chgBox X5d.out hc).1 hc2).c2, ((O5d.out.box X5d.out hc).ref (Y5d.out.chgBox X5d.out hc).1 hc2).c3⟩ | go_keep)
              (first
                | (go_at_call 12; refine (match_any w.heap.size g X o.Now o.Seq _ _ _ o.B _ X5d.out (reads_drewN HS5.out 1) HBy.out b0 HHX.out).mono ?_; rintro e w6 ⟨rfl, hx, hc⟩)
                | (go_at_call 18; refine (matchRef_any w.heap.size q Y o.Now o.Seq _ _ _ o.B _ (Y5d.out.chgBox X5d.out hc).1 (HRw.out.below (below_chg HB5d.out hc X5d.out.ge)) HBy.out b0 HHY.out).mono ?_; rintro e w7 ⟨rfl, hy, hc2⟩)
                | (go_at_call 11; refine (bytes_same _ _ _ _ _ _ o.B _ (HSb HV5d.out X5d.out hc Y5d.out hc2) (HRw.out.below (below_chg (below_chg HB5d.out hc X5d.out.ge) hc2 (refGe Y5d.out))) HBy.out).mono ?_; rintro e w' ⟨rfl, rfl⟩))
            have X6 := Aside0.mk (hx.chgRef (Y5d.out.chgBox X5d.out hc).1 hc2).1
            have Y6 := Aside0.mk hy
            have O6 := Aside0.mk ((O5d.out.box X5d.out hc).ref (Y5d.out.chgBox X5d.out hc).1 hc2)
            have HB6 := Aside0.mk (below_chg (below_chg HB5d.out hc X5d.out.ge) hc2 (refGe Y5d.out))
            have AL := Aside0.mk (alike_matched HA.out b0)
            have SZ := Aside0.mk (show (X.matched b0).b.length ≤ 6000 by cases b0; exact HS.out; exact Nat.zero_le _)
            clear d1 d2 d3 d0 hx hy hc hc2
            have d1 := (O6.out).c1
            obtain ⟨b, hbx⟩ : ∃ b, Bx.live (X.matched b0) o.Now = b := ⟨_, rfl⟩
            have HLX := Aside0.mk hbx
            have HLY := Aside0.mk (show Bx.live (Y.matchedR b0) o.Now = b by rw [← hbx]; exact (alike_live AL.out o.Now).symm)
            clear hbx
            go_wp2_with fail
            go_quiet (first | (go_at_call 13; exact quietLiveBox X6.out b HLX.out) | (go_at_call 21; exact quietLive Y6.out b HLY.out))
            go_wp2
            go_roundw
            case rel => exact ⟨j + 1, g, _, _, by omega, by go_num, rfl, ⟨X6.out.drewN _⟩, ⟨Y6.out.drewN _⟩, AL, SZ, ⟨pw_below_drewN HB6.out _⟩⟩
            case measure => simp [intOf]; omega
          · have e1 : (o.Kind == 1) = false := by simp [t1]
            by_cases t2 : o.Kind = 2
            · have e2 : (o.Kind == 2) = true := by simp [t2]
              clear t0 t1 t2
              go_wp2_with fail
              (with_reducible refine (void_any w.heap.size g _ _ X5.out).mono ?_)
              rintro e w6 ⟨rfl, hx, hc⟩
              have X6 := Aside0.mk hx
              have y6 := (Y5.out.chgBox X5.out hc).1
              have O6 := Aside0.mk (O5.out.box X5.out hc)
              have HB6 := Aside0.mk (below_chg HB5.out hc X5.out.ge)
              obtain ⟨v, hq6, hv6, hqB, hs0, hs1, hbb⟩ := y6
              have q1 : w6.cell? ⟨q, 1, none⟩ = some (.bool Y.is) := blk_cell hq6 1
              have f1 := blk_frozen hq6 1
              obtain ⟨o7, k7⟩ := own_ref hv6 hq6 (by decide) 1 (.bool false)
              have Y7 := Aside0.mk (show IsRef w.heap.size (w6.setCell ⟨q, 1, none⟩ (.bool false)) q Y.off from ⟨v, by simpa [Bx.off] using k7, o7, hqB, hs0, hs1, hbb⟩)
              have hC := (Chg.refl q w6).set 1 (.bool false)
              have Y6 : IsRef w.heap.size w6 q Y := ⟨v, hq6, hv6, hqB, hs0, hs1, hbb⟩
              have X7 := Aside0.mk (X6.out.chgRef Y6 hC).1
              have O7 := Aside0.mk (O6.out.ref Y6 hC)
              have HB7 := Aside0.mk (below_chg HB6.out hC hqB)
              have AL := Aside0.mk (alike_void HA.out)
              have SZ := Aside0.mk (show X.void.b.length ≤ 6000 from Nat.zero_le _)
              have d7 := O7.out.c1
              obtain ⟨b, hbx⟩ : ∃ b, Bx.live X.void o.Now = b := ⟨_, rfl⟩
              have HLX := Aside0.mk hbx
              have HLY := Aside0.mk (show Bx.live Y.off o.Now = b by rw [← hbx]; exact (alike_live AL.out o.Now).symm)
              clear hx hc d0 d1 d2 d3 hq6 hv6 o7 k7 hC Y6 hbx hs0 hs1 hbb
              go_wp2_with fail
              go_quiet (first | (go_at_call 13; exact quietLiveBox X7.out b HLX.out) | (go_at_call 21; exact quietLive Y7.out b HLY.out))
              go_wp2
              go_roundw
              case rel => exact ⟨j + 1, g, _, _, by omega, by go_num, rfl, ⟨X7.out.drewN _⟩, ⟨Y7.out.drewN _⟩, AL, SZ, ⟨pw_below_drewN HB7.out _⟩⟩
              case measure => simp [intOf]; omega
            · have e2 : (o.Kind == 2) = false := by simp [t2]
              clear t0 t1 t2
              have hXl : X.b.length ≤ 140737488355328 := by have := HS.out; omega
              go_wp2_with fail
              (with_reducible refine (copy_any w.heap.size g _ _ X5.out HB5.out.size hXl).mono ?_)
              rintro e w6 ⟨g2, rfl, hx, hg2, hb⟩
              have X6 := Aside0.mk (X5.out.below hb)
              have Z6 := Aside0.mk hx
              have Y6 := Aside0.mk (Y5.out.below hb)
              have O6 := Aside0.mk (O5.out.below hb)
              have HB6 := Aside0.mk (below_two HB5.out hb)
              have hgg : g2 ≠ g := by have := X5.out.lt; omega
              clear hx hb d0 d1 d2 d3
              go_wp2_with fail
              (with_reducible refine (void_any w.heap.size g _ _ X6.out).mono ?_)
              rintro e w7 ⟨rfl, hx, hc⟩
              have X7 := Aside0.mk hx
              have Z7 := Aside0.mk (Z6.out.other X6.out hc hgg)
              have Y7 := Aside0.mk (Y6.out.chgBox X6.out hc).1
              have O7 := Aside0.mk (O6.out.box X6.out hc)
              have HB7 := Aside0.mk (below_chg HB6.out hc X6.out.ge)
              clear hx hc
              go_wp2_with fail
              (with_reducible refine (select_any w.heap.size g _ 0 0 none 0 0 [] _ X7.out (reads_nil _ _ _) bytes_nil (by omega) HB7.out.size).mono ?_)
              rintro e w8 ⟨rfl, hx, hc⟩
              have X8 := Aside0.mk (Z7.out.other X7.out hc hgg)
              have Y8 := Aside0.mk (Y7.out.chgBox X7.out hc).1
              have O8 := Aside0.mk (O7.out.box X7.out hc)
              have HB8 := Aside0.mk (below_chg HB7.out hc X7.out.ge)
              have AL := HA
              clear hx hc
              have d1 := (O8.out).c1
              obtain ⟨b, hbx⟩ : ∃ b, Bx.live X o.Now = b := ⟨_, rfl⟩
              have HLX := Aside0.mk hbx
              have HLY := Aside0.mk (show Bx.live Y o.Now = b by rw [← hbx]; exact (alike_live AL.out o.Now).symm)
              clear hbx
              go_wp2_with fail
              go_quiet (first | (go_at_call 13; exact quietLiveBox X8.out b HLX.out) | (go_at_call 21; exact quietLive Y8.out b HLY.out))
              go_wp2
              go_roundw
              case rel => exact ⟨j + 1, g2, _, _, by omega, by go_num, rfl, ⟨X8.out.drewN _⟩, ⟨Y8.out.drewN _⟩, AL, SZ, ⟨pw_below_drewN HB8.out _⟩⟩
              case measure => simp [intOf]; omega
      · clear HA HS HX HY
        go_wp2_with fail
        (with_reducible refine (first_any _).mono ?_)
        rintro e w9 ⟨rfl, hb⟩
        have HB9 := Aside0.mk (below_two HB.out hb)
        clear hb
        go_wp2
        go_ret
        exact ⟨rfl, HB9.out⟩
end Go.Proofs.Ytoieognhjebcpaa
