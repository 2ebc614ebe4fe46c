/- The line that fails: what comes out was put in, the law. Conditions: the arguments read as data. -/
import Derived.Test.YthdjlhhdjanocaaLnI
namespace Go.Proofs.Ythdjlhhdjanocaa
open Go.RowKit Go.Proofs.YthdjlhhdjanocaaW.PrintWords
set_option linter.unusedVariables false
/-! How long frames are, together. -/
def cut1 (n : Nat) : Nat := if 20001 < n then 20001 else n
def total : List (List Int) → Nat
  | [] => 0
  | f :: l => cut1 f.length + total l
theorem total_append (l m : List (List Int)) : total (l ++ m) = total l + total m := by
  induction l with
  | nil => simp [total]
  | cons o l ih => simp [total, ih, Nat.add_assoc]
theorem total_le (l : List (List Int)) : total l ≤ 20001 * l.length := by
  induction l with
  | nil => simp [total]
  | cons o l ih => simp only [total, List.length_cons]; unfold cut1; split <;> omega
theorem total_take (l : List (List Int)) (k : Nat) (h : k < l.length) : total (l.take (k + 1)) = total (l.take k) + cut1 (l.getD k []).length := by
  have : l.take (k + 1) = l.take k ++ [l.getD k []] := by
    rw [List.take_succ_eq_append_getElem h]; simp [List.getD_eq_getElem?_getD, List.getElem?_eq_getElem h]
  rw [this, total_append]; simp [total]
theorem total_small {l : List (List Int)} (h : total l ≤ 20000) : ∀ o ∈ l, o.length ≤ 20000 := by
  intro o ho
  obtain ⟨a, b, rfl⟩ := List.append_of_mem ho
  rw [total_append] at h
  simp only [total] at h
  unfold cut1 at h
  split at h <;> omega
theorem memL {l : List (List Int)} {j : Nat} (h : j < l.length) : l.getD j [] ∈ l := by simp [List.getD_eq_getElem?_getD, List.getElem?_eq_getElem h]
/-- The frames that went in: a row for itself of rows that are read. -/
def InRow (B : Nat) (w0 w : World) (vi : Value) (ins : List (List Int)) : Prop :=
  ∃ ps : List (Value × List Int), ins = ps.map (·.2) ∧ w.ownsRow B 27 1 vi ps.length (ps.map (·.1)) ∧ ∀ p ∈ ps, ∃ A c, p.1 = .slice A p.2.length c ∧ ReadsInt w0 .u8 A p.2.length p.2
def Disj (rv vi : Value) : Prop := ∀ k, rv.ownBlock = some k → vi.ownBlock ≠ some k
theorem chg_cell {g : Nat} {w w1 : World} {a : Addr} {v : Value} (hc : Chg g w w1) (h : w.cell? a = some v) (hl : a.block < w.heap.size) (hne : a.block ≠ g) : w1.cell? a = some v := by
  rw [World.cell?_of_block (hc.block a.block hl hne)]; exact h
theorem InRow.slice {B : Nat} {w0 w : World} {vi : Value} {ins : List (List Int)} (h : InRow B w0 w vi ins) : ∃ A c, vi = .slice A ins.length c := by
  obtain ⟨ps, h1, h2, _⟩ := h
  obtain ⟨A, c, e⟩ := row_slice h2
  exact ⟨A, c, by rw [e, h1]; simp⟩
theorem InRow.below {B : Nat} {w0 w w1 : World} {vi : Value} {ins : List (List Int)} (h : InRow B w0 w vi ins) (hb : Below w.heap.size w w1) : InRow B w0 w1 vi ins := by
  obtain ⟨ps, h1, h2, h3⟩ := h
  exact ⟨ps, h1, own_below' h2 hb, h3⟩
/-- The line's steps leave it. -/
theorem InRow.keep {B g : Nat} {w0 w w1 : World} {rv vi : Value} {ins : List (List Int)} {s : LS} (h : InRow B w0 w vi ins) (hs : IsLn B w g rv s) (hd : Disj rv vi) (hc : ChgL g rv w w1) : InRow B w0 w1 vi ins := by
  obtain ⟨ps, h1, h2, h3⟩ := h
  refine ⟨ps, h1, own_to h2 fun k hk => ?_, h3⟩
  obtain ⟨hk1, cs1, hk2⟩ := row_lt h2 k hk
  refine hc.block k hk1 ?_ (fun e => hd k e hk)
  rintro rfl
  obtain ⟨hv, hg, _⟩ := hs
  rw [hk2] at hg; injection hg with hg; injection hg with _ e; exact absurd e (by decide)
theorem InRow.lt {B : Nat} {w0 w : World} {vi : Value} {ins : List (List Int)} (h : InRow B w0 w vi ins) : ∀ k, vi.ownBlock = some k → k < w.heap.size := by
  obtain ⟨ps, _, h2, _⟩ := h
  exact fun k hk => (row_lt h2 k hk).1
theorem Disj.fresh {w : World} {rv rv' vi : Value} (h : Disj rv vi) (hf : Fresh w.heap.size rv rv') (hl : ∀ k, vi.ownBlock = some k → k < w.heap.size) : Disj rv' vi := by
  intro k hk e
  rcases hf with f | f | ⟨x, f, hx⟩
  · rw [f] at hk; cases hk
  · exact h k (f ▸ hk) e
  · have := hl k e; rw [f] at hk; injection hk with hk; omega
theorem InRow.reads {B : Nat} {w0 w : World} {vi : Value} {ins : List (List Int)} (h : InRow B w0 w vi ins) (hb : Below w0.heap.size w0 w) : ∃ A c, vi = .slice A ins.length c ∧ ReadsL w A ins.length ins := by
  obtain ⟨ps, h1, h2, h3⟩ := h
  have hl : ins.length = ps.length := by rw [h1]; simp
  rcases h2.2 with ⟨rfl, h0⟩ | ⟨g, cap, cur, rfl, hg, hh, hc, hm, hsz, htk⟩
  · exact ⟨none, 0, by rw [hl, h0], ⟨rfl, by omega, fun j hj => by omega⟩⟩
  · refine ⟨some ⟨g, 0, none⟩, cap, by rw [hl], ⟨rfl, by unfold maxLen at hm; omega, fun j hj => ?_⟩⟩
    have hjp : j < ps.length := by omega
    obtain ⟨Bj, cj, hv, hrd⟩ := h3 ps[j] (List.getElem_mem hjp)
    have hrj : ins.getD j [] = ps[j].2 := by rw [h1]; simp [List.getD_eq_getElem?_getD, hjp]
    refine ⟨⟨g, 0, none⟩, Bj, cj, rfl, ?_, ?_⟩
    · rw [hrj, ← hv]
      have hcell : cur[j]? = some ps[j].1 := by
        have hx := congrArg (fun l => l[j]?) htk
        simp only [List.getElem?_take, Nat.mul_one, if_pos hjp, List.getElem?_map, List.getElem?_eq_getElem hjp, Option.map_some] at hx
        simpa using hx
      have hb := blk_cell hh j
      rw [hcell] at hb
      have ha : (⟨g, 0, none⟩ : Addr).add j = ⟨g, j, none⟩ := by unfold Addr.add; split <;> simp_all
      rw [ha]; exact hb
    · rw [hrj]; exact hrd.below hb
theorem IsLn.grown {B g n : Nat} {w w1 : World} {rv vi : Value} {s : LS} {xs : List Value} (h : IsLn B w g rv s) (hv : w.ownsRow B 27 1 vi n xs) (hd : Disj rv vi) (hg : w.grownBy w1 vi.ownBlock) : IsLn B w1 g rv s := by
  obtain ⟨hh, h1, hB, ⟨ps, e, h3, h4⟩, h5⟩ := h
  have u8 : ∀ v l, OwnB B w v l → OwnB B w1 v l := fun v l ho => own_to ho fun k hk => by
    obtain ⟨hk1, cs1, hk2⟩ := row_lt ho k hk
    refine hg.block k hk1 fun e => ?_
    obtain ⟨_, cs2, h2⟩ := row_lt hv k e.symm
    rw [hk2] at h2; injection h2 with h2; injection h2 with _ e; exact absurd e (by decide)
  refine ⟨hh, grown_line h1 hv hg, hB, ⟨ps, e, own_to h3 fun k hk => hg.block k (row_lt h3 k hk).1 (fun e => hd k hk e.symm), fun p hp => u8 _ _ (h4 p hp)⟩, ?_⟩
  cases ho : s.h with
  | none => rw [ho] at h5; exact h5
  | some l => rw [ho] at h5; exact ⟨h5.1, u8 _ _ h5.2⟩
theorem IsLn.row_lt' {B g : Nat} {w : World} {rv : Value} {s : LS} (h : IsLn B w g rv s) : ∀ k, rv.ownBlock = some k → k < w.heap.size := by
  obtain ⟨hh, h1, hB, ⟨ps, e, h3, h4⟩, h5⟩ := h
  exact fun k hk => (row_lt h3 k hk).1
theorem Disj.grown {rv vi vi' : Value} {n : Nat} (h : Disj rv vi) (hl : ∀ k, rv.ownBlock = some k → k < n) (hat : vi'.ownBlock = vi.ownBlock ∨ ∃ b, vi'.ownBlock = some b ∧ n ≤ b) : Disj rv vi' := by
  intro k hk e
  rcases hat with f | ⟨b, f, hb⟩
  · rw [f] at e; exact h k hk e
  · have := hl k hk; rw [f] at e; injection e with e; omega
theorem faultL_yes (B g : Nat) (rv : Value) (s : LS) (k a : Int) (w : World) (hs : IsLn B w g rv s) (hk : 1 ≤ k ∧ k ≤ 4) :
    Calls Try.prog 9 #[.pointer (some ⟨g, 0, none⟩), .int .i64 k, .int .i64 a] w (fun e w' => e = .returned (.bool true) ∧ IsLn B w' g rv { s with k := k, a := a } ∧ Chg g w w') := by
  have h := faultL_any B g rv s k a w hs
  rw [if_pos hk, decide_eq_true hk] at h; exact h
theorem faultL_no (B g : Nat) (rv : Value) (s : LS) (k a : Int) (w : World) (hs : IsLn B w g rv s) (hk : ¬ (1 ≤ k ∧ k ≤ 4)) :
    Calls Try.prog 9 #[.pointer (some ⟨g, 0, none⟩), .int .i64 k, .int .i64 a] w (fun e w' => e = .returned (.bool false) ∧ IsLn B w' g rv s ∧ Chg g w w') := by
  have h := faultL_any B g rv s k a w hs
  rw [if_neg hk, decide_eq_false hk] at h; exact h
set_option maxHeartbeats 6000000 in
set_option maxRecDepth 100000 in
theorem whole_law (A : Option Addr) (n c : Nat) (l : List (List Int)) (A1 : Option Addr) (n1 c1 : Nat) (ks : List Int) (A2 : Option Addr) (n2 c2 : Nat) (as_ : List Int) (w : World) (h : kdL.C w A n l) (hok : ∀ o ∈ l, Bytes o) (h1 : (Kd.int .i64).C w A1 n1 ks) (h2 : (Kd.int .i64).C w A2 n2 as_) :
    Calls Try.prog 3 #[.slice A n c, .slice A1 n1 c1, .slice A2 n2 c2] w (fun e w' => e = .returned (.bool true) ∧ Below w.heap.size w w') := by
  have hn : n ≤ 9223372036854775807 := h.2.1
  have hn1 : n1 ≤ 9223372036854775807 := h1.2.1
  have hn2 : n2 ≤ 9223372036854775807 := h2.2.1
  have HL := Aside0.mk (show l.length = n from h.1)
  have HOK := Aside0.mk hok
  have H := Aside0.mk h
  have H1 := Aside0.mk (reads_int h1)
  have H2 := Aside0.mk (reads_int h2)
  clear h hok h1 h2
  go_enter Try.func3, Try.ntmps3
  go_wp2_with fail
  (with_reducible refine (firstL_any _).mono ?_)
  rintro _ w1 ⟨rfl, hb1⟩
  go_wp2_with fail
  (with_reducible refine (newL_any w.heap.size _ hb1.size).mono ?_)
  rintro _ w2 ⟨g, rfl, hs2, hg2, hb2⟩
  have HB2 := Aside0.mk (below_two hb1 hb2)
  have HS2 := Aside0.mk hs2
  have lg2 : w.heap.size ≤ g := Nat.le_trans hb1.size hg2
  clear hs2 hb1 hb2 hg2
  go_wp2
  go_loop [8, 9] (fun t i => ∃ k : Nat, k ≤ n ∧ k ≤ 100 ∧ i = .int .i64 k ∧ t = .int .i64 (total (l.take k) : Nat)) (fun _ i => n - (intOf i).toNat)
  case atStart => exact ⟨0, Nat.zero_le _, Nat.zero_le _, rfl, rfl⟩
  case round =>
    obtain ⟨k, hk, hk2, rfl, rfl⟩ := hrel
    by_cases hlt : k < n ∧ k < 100
    · obtain ⟨hl1, hl2⟩ := hlt
      obtain ⟨ad, A3, c3, rfl, kc, hc3, _⟩ := sl_at H.out k (by omega)
      replace kc := pw_cell_below HB2.out kc
      have hT := total_le (l.take k)
      have hT2 : (l.take k).length ≤ k := List.length_take_le _ _
      have HT := Aside0.mk (total_take l k (by rw [HL.out]; exact hl1))
      obtain ⟨L, hLL⟩ : ∃ L, (l.getD k []).length = L := ⟨_, rfl⟩
      obtain ⟨T, hTT⟩ : ∃ T, total (l.take k) = T := ⟨_, rfl⟩
      rw [hLL] at hc3 HT kc
      rw [hTT] at hT HT ⊢
      have hTb : T ≤ 20001 * 100 := by omega
      clear hT hT2 hLL hTT
      by_cases hb : 20001 < L
      · have HE := Aside0.mk (show cut1 L = 20001 by unfold cut1; rw [if_pos hb])
        go_wp2
        all_goals
          go_round
          case rel => exact ⟨k + 1, by omega, by omega, by go_num, by rw [HT.out, HE.out]; go_num⟩
          case measure => simp [intOf]; omega
      · have HE := Aside0.mk (show cut1 L = L by unfold cut1; rw [if_neg hb])
        go_wp2
        all_goals
          go_round
          case rel => exact ⟨k + 1, by omega, by omega, by go_num, by rw [HT.out, HE.out]; go_num⟩
          case measure => simp [intOf]; omega
    · obtain ⟨T, hTT⟩ : ∃ T, total (l.take k) = T := ⟨_, rfl⟩
      rw [hTT]
      have HTT := Aside0.mk hTT
      clear hTT
      by_cases e1 : n ≤ 100
      case neg =>
        have e3 : 100 < n := by omega
        go_wp2_with fail
        (with_reducible refine (firstL_any _).mono ?_)
        rintro _ w4 ⟨rfl, hb4⟩
        have HB4 := Aside0.mk (below_two HB2.out hb4)
        clear hb4
        go_wp2
        go_ret
        exact ⟨rfl, HB4.out⟩
      by_cases e3 : T ≤ 20000
      case neg =>
        have e4 : 20000 < T := by omega
        go_wp2_with fail
        (with_reducible refine (firstL_any _).mono ?_)
        rintro _ w4 ⟨rfl, hb4⟩
        have HB4 := Aside0.mk (below_two HB2.out hb4)
        clear hb4
        go_wp2
        go_ret
        exact ⟨rfl, HB4.out⟩
      by_cases e2 : n1 ≤ n2
      case neg =>
        have e5 : n2 < n1 := by omega
        go_wp2_with fail
        (with_reducible refine (firstL_any _).mono ?_)
        rintro _ w4 ⟨rfl, hb4⟩
        have HB4 := Aside0.mk (below_two HB2.out hb4)
        clear hb4
        go_wp2
        go_ret
        exact ⟨rfl, HB4.out⟩
      obtain rfl : k = n := by omega
      have HF := Aside0.mk (show ∀ o ∈ l, o.length ≤ 20000 by
        have := HTT.out
        rw [List.take_of_length_le (by rw [HL.out]; exact Nat.le_refl _)] at this
        exact total_small (by omega))
      go_wp2
      go_loopw [10, 11, 12] (fun cl vi i wr => ∃ (j : Nat) (cb : Bool) (rv : Value) (s : LS) (ins : List (List Int)), j ≤ k ∧ i = .int .i64 j ∧ cl = .bool cb ∧ ins.length ≤ j ∧ Aside0 (IsLn w.heap.size wr g rv s) ∧ Aside0 (InRow w.heap.size w wr vi ins) ∧ Aside0 (Disj rv vi) ∧ Aside0 (LInv s ins cb) ∧ Aside0 (∀ f ∈ ins, f ∈ l) ∧ Aside0 (Below w.heap.size w wr)) (fun _ _ i _ => k - (intOf i).toNat)
      case atStart => exact ⟨0, true, _, _, [], Nat.zero_le _, rfl, rfl, Nat.zero_le _, HS2, ⟨⟨[], rfl, own_nil _ _ _ _, fun p hp => by simp at hp⟩⟩, ⟨fun q hq => by cases hq⟩, ⟨⟨fun g hg => by simp at hg, by simp, fun _ => rfl⟩⟩, ⟨fun f hf => by simp at hf⟩, HB2⟩
      case round =>
        clear HS2
        obtain ⟨j, cb, rv, s, ins, hj, rfl, rfl, hil, HLn, HIn, HDj, HIv, HSub, HB⟩ := hrel
        by_cases hlt : j < k
        · obtain ⟨ad, A4, c4, rfl, k0, l4, g4⟩ := sl_at H.out j (by omega)
          have hmem := memL (l := l) (j := j) (by rw [HL.out]; exact hlt)
          have hsm := HF.out _ hmem
          have HRw := Aside0.mk (reads_int g4)
          generalize hO : l.getD j [] = O at k0 l4 g4 hmem hsm HRw
          have HMem := Aside0.mk hmem
          obtain ⟨L, hLL⟩ : ∃ L, O.length = L := ⟨_, rfl⟩
          have HLL := Aside0.mk hLL
          rw [hLL] at k0 l4 hsm HRw
          have K0 := Aside0.mk k0
          obtain ⟨Av, cv, rfl⟩ := HIn.out.slice
          clear g4 hO hLL hmem
          by_cases hjk : j < n1
          · obtain ⟨adk, rfl, q1⟩ := int_at H1.out j hjk
            obtain ⟨ada, rfl, q2⟩ := int_at H2.out j (by omega)
            have lq1 := World.block_lt_of_cell? w _ q1
            have lq2 := World.block_lt_of_cell? w _ q2
            replace q1 := pw_cell_below HB.out q1
            replace q2 := pw_cell_below HB.out q2
            generalize ks.getD j 0 = kk at q1
            generalize as_.getD j 0 = aa at q2
            have hBw := HB.out.size
            have hj0 : (0 : Int) ≤ (j : Int) := Int.natCast_nonneg _
            have hj1 : (j : Int) < (n1 : Int) := by omega
            have hj2 : (j : Int) < (n2 : Int) := by omega
            have hjd : decide ((j : Int) < (n1 : Int)) = true := decide_eq_true hj1
            have q1d : wr.drew.cell? (adk.add j) = some (.int .i64 kk) := q1
            have q2d : wr.drew.cell? (ada.add j) = some (.int .i64 aa) := q2
            have HLd := Aside0.mk (IsLn.below HLn.out (below_drew (Below.refl _ _)))
            by_cases hk : 1 ≤ kk ∧ kk ≤ 4
            · go_wp2
              go_region_held3 (fun w' => w'.cell? (adk.add j) = some (.int .i64 kk) ∧ w'.cell? (ada.add j) = some (.int .i64 aa))
                (first | exact ⟨q1, q2⟩ | exact ⟨q1d, q2d⟩ | exact ⟨y1, y2⟩ | go_keep)
                ((go_at_call 9; (with_reducible refine (faultL_yes w.heap.size g _ _ kk aa _ HLd.out hk).mono ?_); rintro e w3 ⟨rfl, hs3, hc3⟩; have y1 : w3.cell? (adk.add j) = some (.int .i64 kk) := chg_cell hc3 q1d (by simp; omega) (by simp; omega); have y2 : w3.cell? (ada.add j) = some (.int .i64 aa) := chg_cell hc3 q2d (by simp; omega) (by simp; omega); have HS3 := Aside0.mk hs3; have HC3 := Aside0.mk hc3; clear hs3 hc3))
              have HSw := Aside0.mk HS3.out
              have HBd := below_drew (Below.refl wr.heap.size wr)
              have HInw := Aside0.mk ((HIn.out.below HBd).keep HLd.out HDj.out (ChgL.of_chg HC3.out))
              have HBw := Aside0.mk ((below_drew HB.out).trans (HC3.out.below lg2 (below_drew HB.out).size))
              clear q1 q2 q1d q2d y1 y2 HBd k0
              have HIvw := Aside0.mk (show LInv { s with k := kk, a := aa } ins false by have h := HIv.out.fault kk aa; rw [if_pos hk, if_pos hk] at h; exact h)
              have k0 := pw_cell_below HBw.out K0.out
              go_wp2_with fail
              (with_reducible refine (putL_any w.heap.size g rv _ A4 L c4 O _ HSw.out (HRw.out.below HBw.out) (by omega) (by have h := HIvw.out.few; omega) HBw.out.size).mono ?_)
              rintro _ w4 ⟨rfl, rv4, hs4, hc4, hf4⟩
              have HB4 := Aside0.mk (HBw.out.trans (HSw.out.chg_below hc4 HBw.out.size))
              have HS4 := Aside0.mk hs4
              have HIn4 := Aside0.mk (HInw.out.keep HSw.out HDj.out hc4)
              have HDj4 := Aside0.mk (HDj.out.fresh hf4 HInw.out.lt)
              have HIv4 := Aside0.mk (HIvw.out.put O)
              have k4 := pw_cell_below HB4.out K0.out
              clear k0 hs4 hc4 hf4
              by_cases hL0 : L = 0
              · rw [if_pos (by rw [HLL.out]; exact hL0)] at HIv4
                have hL0' : decide ((0 : Int) < (L : Int)) = false := decide_eq_false (by omega)
                go_wp2
                go_round
                case rel => exact ⟨j + 1, false, rv4, _, ins, by omega, by go_num, rfl, by omega, HS4, HIn4, HDj4, HIv4, HSub, HB4⟩
                case measure => simp [intOf]; omega
              · rw [if_neg (by rw [HLL.out]; exact hL0)] at HIv4
                have hL0' : decide ((0 : Int) < (L : Int)) = true := decide_eq_true (by omega)
                obtain ⟨ps, hps, hrow, hall⟩ := HIn4.out
                have hpl : ins.length = ps.length := by rw [hps]; simp
                have HRow := Aside0.mk (show w4.ownsRow w.heap.size 27 1 (.slice Av ps.length cv) ps.length (ps.map (·.1)) by rw [← hpl]; rw [← hpl] at hrow; exact hrow)
                have HDj4 := Aside0.mk (show Disj rv4 (.slice Av ps.length cv) by rw [← hpl]; exact HDj4.out)
                have HPs := Aside0.mk hps
                have HAll := Aside0.mk hall
                have hB4 := HB4.out.size
                clear hrow hps hall
                go_wp2_with (at_builtin; refine hold0 ?_)
                unfold Held0
                refine print_append (w0 := w4) w.heap.size rfl (.tmp 95) (.tmp 100) 22 27 (.slice none 0 0) 24 rfl Try.underlying22 info_sl rfl (by omega) (.slice Av ps.length cv) (ps.map (·.1)) (.slice A4 L c4) rfl rfl rfl (by rw [List.length_map]; exact HRow.out) (Below.refl _ _) hB4 (by rw [List.length_map]; omega) ?_
                intro v5 w5 ho hb hg hat
                simp only [List.length_append, List.length_map, List.length_singleton] at ho
                obtain ⟨Av5, cv5, rfl⟩ := row_slice ho
                have HS5 := Aside0.mk (HS4.out.grown HRow.out HDj4.out hg)
                have HDj5 := Aside0.mk (HDj4.out.grown HS4.out.row_lt' hat)
                have HB5 := Aside0.mk (HB4.out.trans hb)
                have HIn5 := Aside0.mk (show InRow w.heap.size w w5 (.slice Av5 (ps.length + 1) cv5) (ins ++ [O]) from ⟨ps ++ [(.slice A4 L c4, O)], by rw [HPs.out]; simp, by simpa using ho, fun p hp => by
                  rcases List.mem_append.1 hp with hp | hp
                  · exact HAll.out p hp
                  · rw [List.mem_singleton.1 hp]; exact ⟨A4, c4, by rw [HLL.out], by rw [HLL.out]; exact HRw.out⟩⟩)
                have HSub5 := Aside0.mk (show ∀ f ∈ ins ++ [O], f ∈ l from fun f hf => by
                  rcases List.mem_append.1 hf with hf | hf
                  · exact HSub.out f hf
                  · rw [List.mem_singleton.1 hf]; exact HMem.out)
                clear ho hb hg hat
                go_wp2
                go_round
                case rel => exact ⟨j + 1, false, rv4, _, ins ++ [O], by omega, by go_num, rfl, by simp; omega, HS5, HIn5, HDj5, HIv4, HSub5, HB5⟩
                case measure => simp [intOf]; omega
            · go_wp2
              go_region_held3 (fun w' => w'.cell? (adk.add j) = some (.int .i64 kk) ∧ w'.cell? (ada.add j) = some (.int .i64 aa))
                (first | exact ⟨q1, q2⟩ | exact ⟨q1d, q2d⟩ | exact ⟨y1, y2⟩ | go_keep)
                ((go_at_call 9; (with_reducible refine (faultL_no w.heap.size g _ _ kk aa _ HLd.out hk).mono ?_); rintro e w3 ⟨rfl, hs3, hc3⟩; have y1 : w3.cell? (adk.add j) = some (.int .i64 kk) := chg_cell hc3 q1d (by simp; omega) (by simp; omega); have y2 : w3.cell? (ada.add j) = some (.int .i64 aa) := chg_cell hc3 q2d (by simp; omega) (by simp; omega); have HS3 := Aside0.mk hs3; have HC3 := Aside0.mk hc3; clear hs3 hc3))
              have HSw := Aside0.mk HS3.out
              have HBd := below_drew (Below.refl wr.heap.size wr)
              have HInw := Aside0.mk ((HIn.out.below HBd).keep HLd.out HDj.out (ChgL.of_chg HC3.out))
              have HBw := Aside0.mk ((below_drew HB.out).trans (HC3.out.below lg2 (below_drew HB.out).size))
              clear q1 q2 q1d q2d y1 y2 HBd k0
              have HIvw := Aside0.mk (show LInv s ins cb from HIv.out)
              have k0 := pw_cell_below HBw.out K0.out
              go_wp2_with fail
              (with_reducible refine (putL_any w.heap.size g rv _ A4 L c4 O _ HSw.out (HRw.out.below HBw.out) (by omega) (by have h := HIvw.out.few; omega) HBw.out.size).mono ?_)
              rintro _ w4 ⟨rfl, rv4, hs4, hc4, hf4⟩
              have HB4 := Aside0.mk (HBw.out.trans (HSw.out.chg_below hc4 HBw.out.size))
              have HS4 := Aside0.mk hs4
              have HIn4 := Aside0.mk (HInw.out.keep HSw.out HDj.out hc4)
              have HDj4 := Aside0.mk (HDj.out.fresh hf4 HInw.out.lt)
              have HIv4 := Aside0.mk (HIvw.out.put O)
              have k4 := pw_cell_below HB4.out K0.out
              clear k0 hs4 hc4 hf4
              by_cases hL0 : L = 0
              · rw [if_pos (by rw [HLL.out]; exact hL0)] at HIv4
                have hL0' : decide ((0 : Int) < (L : Int)) = false := decide_eq_false (by omega)
                go_wp2
                go_round
                case rel => exact ⟨j + 1, cb, rv4, _, ins, by omega, by go_num, rfl, by omega, HS4, HIn4, HDj4, HIv4, HSub, HB4⟩
                case measure => simp [intOf]; omega
              · rw [if_neg (by rw [HLL.out]; exact hL0)] at HIv4
                have hL0' : decide ((0 : Int) < (L : Int)) = true := decide_eq_true (by omega)
                obtain ⟨ps, hps, hrow, hall⟩ := HIn4.out
                have hpl : ins.length = ps.length := by rw [hps]; simp
                have HRow := Aside0.mk (show w4.ownsRow w.heap.size 27 1 (.slice Av ps.length cv) ps.length (ps.map (·.1)) by rw [← hpl]; rw [← hpl] at hrow; exact hrow)
                have HDj4 := Aside0.mk (show Disj rv4 (.slice Av ps.length cv) by rw [← hpl]; exact HDj4.out)
                have HPs := Aside0.mk hps
                have HAll := Aside0.mk hall
                have hB4 := HB4.out.size
                clear hrow hps hall
                go_wp2_with (at_builtin; refine hold0 ?_)
                unfold Held0
                refine print_append (w0 := w4) w.heap.size rfl (.tmp 95) (.tmp 100) 22 27 (.slice none 0 0) 24 rfl Try.underlying22 info_sl rfl (by omega) (.slice Av ps.length cv) (ps.map (·.1)) (.slice A4 L c4) rfl rfl rfl (by rw [List.length_map]; exact HRow.out) (Below.refl _ _) hB4 (by rw [List.length_map]; omega) ?_
                intro v5 w5 ho hb hg hat
                simp only [List.length_append, List.length_map, List.length_singleton] at ho
                obtain ⟨Av5, cv5, rfl⟩ := row_slice ho
                have HS5 := Aside0.mk (HS4.out.grown HRow.out HDj4.out hg)
                have HDj5 := Aside0.mk (HDj4.out.grown HS4.out.row_lt' hat)
                have HB5 := Aside0.mk (HB4.out.trans hb)
                have HIn5 := Aside0.mk (show InRow w.heap.size w w5 (.slice Av5 (ps.length + 1) cv5) (ins ++ [O]) from ⟨ps ++ [(.slice A4 L c4, O)], by rw [HPs.out]; simp, by simpa using ho, fun p hp => by
                  rcases List.mem_append.1 hp with hp | hp
                  · exact HAll.out p hp
                  · rw [List.mem_singleton.1 hp]; exact ⟨A4, c4, by rw [HLL.out], by rw [HLL.out]; exact HRw.out⟩⟩)
                have HSub5 := Aside0.mk (show ∀ f ∈ ins ++ [O], f ∈ l from fun f hf => by
                  rcases List.mem_append.1 hf with hf | hf
                  · exact HSub.out f hf
                  · rw [List.mem_singleton.1 hf]; exact HMem.out)
                clear ho hb hg hat
                go_wp2
                go_round
                case rel => exact ⟨j + 1, cb, rv4, _, ins ++ [O], by omega, by go_num, rfl, by simp; omega, HS5, HIn5, HDj5, HIv4, HSub5, HB5⟩
                case measure => simp [intOf]; omega
          · have hj1 : ¬ (j : Int) < (n1 : Int) := by omega
            have hjd : decide ((j : Int) < (n1 : Int)) = false := decide_eq_false hj1
            go_wp2
            go_quiet (fail)
            have HSw := Aside0.mk (IsLn.below HLn.out (pw_below_drewN (Below.refl _ _) nq))
            have HInw := Aside0.mk (HIn.out.below (pw_below_drewN (Below.refl _ _) nq))
            have HBw := Aside0.mk (pw_below_drewN HB.out nq)
            have HIvw := Aside0.mk (show LInv s ins cb from HIv.out)
            have k0 := pw_cell_below HBw.out K0.out
            go_wp2_with fail
            (with_reducible refine (putL_any w.heap.size g rv _ A4 L c4 O _ HSw.out (HRw.out.below HBw.out) (by omega) (by have h := HIvw.out.few; omega) HBw.out.size).mono ?_)
            rintro _ w4 ⟨rfl, rv4, hs4, hc4, hf4⟩
            have HB4 := Aside0.mk (HBw.out.trans (HSw.out.chg_below hc4 HBw.out.size))
            have HS4 := Aside0.mk hs4
            have HIn4 := Aside0.mk (HInw.out.keep HSw.out HDj.out hc4)
            have HDj4 := Aside0.mk (HDj.out.fresh hf4 HInw.out.lt)
            have HIv4 := Aside0.mk (HIvw.out.put O)
            have k4 := pw_cell_below HB4.out K0.out
            clear k0 hs4 hc4 hf4
            by_cases hL0 : L = 0
            · rw [if_pos (by rw [HLL.out]; exact hL0)] at HIv4
              have hL0' : decide ((0 : Int) < (L : Int)) = false := decide_eq_false (by omega)
              go_wp2
              go_round
              case rel => exact ⟨j + 1, cb, rv4, _, ins, by omega, by go_num, rfl, by omega, HS4, HIn4, HDj4, HIv4, HSub, HB4⟩
              case measure => simp [intOf]; omega
            · rw [if_neg (by rw [HLL.out]; exact hL0)] at HIv4
              have hL0' : decide ((0 : Int) < (L : Int)) = true := decide_eq_true (by omega)
              obtain ⟨ps, hps, hrow, hall⟩ := HIn4.out
              have hpl : ins.length = ps.length := by rw [hps]; simp
              have HRow := Aside0.mk (show w4.ownsRow w.heap.size 27 1 (.slice Av ps.length cv) ps.length (ps.map (·.1)) by rw [← hpl]; rw [← hpl] at hrow; exact hrow)
              have HDj4 := Aside0.mk (show Disj rv4 (.slice Av ps.length cv) by rw [← hpl]; exact HDj4.out)
              have HPs := Aside0.mk hps
              have HAll := Aside0.mk hall
              have hB4 := HB4.out.size
              clear hrow hps hall
              go_wp2_with (at_builtin; refine hold0 ?_)
              unfold Held0
              refine print_append (w0 := w4) w.heap.size rfl (.tmp 95) (.tmp 100) 22 27 (.slice none 0 0) 24 rfl Try.underlying22 info_sl rfl (by omega) (.slice Av ps.length cv) (ps.map (·.1)) (.slice A4 L c4) rfl rfl rfl (by rw [List.length_map]; exact HRow.out) (Below.refl _ _) hB4 (by rw [List.length_map]; omega) ?_
              intro v5 w5 ho hb hg hat
              simp only [List.length_append, List.length_map, List.length_singleton] at ho
              obtain ⟨Av5, cv5, rfl⟩ := row_slice ho
              have HS5 := Aside0.mk (HS4.out.grown HRow.out HDj4.out hg)
              have HDj5 := Aside0.mk (HDj4.out.grown HS4.out.row_lt' hat)
              have HB5 := Aside0.mk (HB4.out.trans hb)
              have HIn5 := Aside0.mk (show InRow w.heap.size w w5 (.slice Av5 (ps.length + 1) cv5) (ins ++ [O]) from ⟨ps ++ [(.slice A4 L c4, O)], by rw [HPs.out]; simp, by simpa using ho, fun p hp => by
                rcases List.mem_append.1 hp with hp | hp
                · exact HAll.out p hp
                · rw [List.mem_singleton.1 hp]; exact ⟨A4, c4, by rw [HLL.out], by rw [HLL.out]; exact HRw.out⟩⟩)
              have HSub5 := Aside0.mk (show ∀ f ∈ ins ++ [O], f ∈ l from fun f hf => by
                rcases List.mem_append.1 hf with hf | hf
                · exact HSub.out f hf
                · rw [List.mem_singleton.1 hf]; exact HMem.out)
              clear ho hb hg hat
              go_wp2
              go_round
              case rel => exact ⟨j + 1, cb, rv4, _, ins ++ [O], by omega, by go_num, rfl, by simp; omega, HS5, HIn5, HDj5, HIv4, HSub5, HB5⟩
              case measure => simp [intOf]; omega
        · obtain rfl : j = k := by omega
          have HLenG0 := Aside0.mk (show ∀ t, t < ins.length → (ins.getD t []).length ≤ 1000000 from fun t ht => by have h := HF.out _ (HSub.out _ (memL ht)); omega)
          clear HL HTT e3 HF
          go_wp2_with fail
          (with_reducible refine (takeL_any w.heap.size g _ _ _ HLn.out).mono ?_)
          rintro _ w3 ⟨rfl, hr3, _, hc3⟩
          have hin3 := HIn.out.keep HLn.out HDj.out (ChgL.of_chg hc3)
          have HB3 := Aside0.mk (HB.out.trans (hc3.below lg2 HB.out.size))
          obtain ⟨A3, c3, rfl, hro⟩ := hr3.reads
          obtain ⟨Ai, ci, rfl, hri⟩ := hin3.reads HB3.out
          have HRo := Aside0.mk hro
          have HRi := Aside0.mk hri
          have hfew := HIv.out.few
          clear hr3 hc3 hin3 hro hri
          obtain ⟨nr, hnr⟩ : ∃ nr, s.r.length = nr := ⟨_, rfl⟩
          obtain ⟨ni, hni⟩ : ∃ ni, ins.length = ni := ⟨_, rfl⟩
          have HNr := Aside0.mk hnr
          have HNi := Aside0.mk hni
          rw [hnr] at HRo hfew ⊢
          rw [hni] at HRi hfew hil HLenG0 ⊢
          have HLenG := HLenG0
          clear hnr hni HLenG0
          cases cb
          · go_wp2
            go_loopw [14] (fun i wq => ∃ q m : Nat, q ≤ nr ∧ i = .int .i64 q ∧ wq = w3.drewN m) (fun i _ => nr - (intOf i).toNat)
            case atStart => exact ⟨0, 0, Nat.zero_le _, rfl, rfl⟩
            case round =>
              obtain ⟨q, m, hq, rfl, hwq⟩ := hrel
              have HWq := Aside0.mk hwq
              by_cases hlq : q < nr
              · obtain ⟨ad3, Bo, co, rfl, ko, ro⟩ := HRo.out.get q hlq
                obtain ⟨p0, hp0, hnear⟩ := HIv.out.near (s.r.getD q []) (List.mem_append_left _ (by simp [List.getD_eq_getElem?_getD, List.getElem?_eq_getElem (show q < s.r.length by rw [HNr.out]; exact hlq)]))
                generalize s.r.getD q [] = O at ko ro hnear
                obtain ⟨LO, hLO⟩ : ∃ L, O.length = L := ⟨_, rfl⟩
                have HLO := Aside0.mk hLO
                rw [hLO] at ko ro
                have HRoq := Aside0.mk ro
                have HKo := Aside0.mk ko
                have HNear := Aside0.mk (And.intro hp0 hnear)
                clear hwq ko ro hp0 hnear hLO
                go_wp2
                go_loopw [15, 16] (fun nb kk wz => ∃ (t m2 : Nat) (b : Bool), t ≤ ni ∧ kk = .int .i64 t ∧ nb = .bool b ∧ wz = w3.drewN m2 ∧ Aside0 (∀ p, p < t → (ins.getD p []).length = LO → ham (ins.getD p []) O LO ≤ 1 → b = true)) (fun _ kk _ => ni - (intOf kk).toNat)
                case atStart => exact ⟨0, m, false, Nat.zero_le _, rfl, rfl, HWq.out, ⟨fun p hp => by omega⟩⟩
                case round =>
                  obtain ⟨t, m2, b, ht, rfl, rfl, hwz, HAll⟩ := hrel
                  have HWz := Aside0.mk hwz
                  by_cases hlt2 : t < ni
                  · obtain ⟨ad4, Bi, ci2, rfl, ki, ri⟩ := HRi.out.get t hlt2
                    have HTt := Aside0.mk (show ∀ p, p < t + 1 → p < t ∨ p = t from fun p hp => by omega)
                    generalize hG : ins.getD t [] = G at ki ri
                    have HG := Aside0.mk hG
                    obtain ⟨LG, hLG⟩ : ∃ L, G.length = L := ⟨_, rfl⟩
                    have HLG := Aside0.mk hLG
                    rw [hLG] at ki ri
                    replace ki : wr.cell? (ad4.add t) = some (.slice Bi LG ci2) := by rw [hwz]; exact ki
                    have ko : wr.cell? (ad3.add q) = some (.slice Bo LO co) := by rw [hwz]; exact HKo.out
                    have R1 := Aside0.mk (show ReadsInt wr .u8 Bi LG G by rw [hwz]; exact ri)
                    have R2 := Aside0.mk (show ReadsInt wr .u8 Bo LO O by rw [hwz]; exact HRoq.out)
                    clear hwz ri hG hLG
                    cases b
                    · have hBC := fun n' => quiet_draws (bits_any' Bi Bo LG LO ci2 co G O (wr.drewN n') (reads_drewN R1.out _) (reads_drewN R2.out _) (by have h := HLenG.out t hlt2; rw [HG.out, HLG.out] at h; exact h))
                      obtain ⟨v, hv⟩ : ∃ v, (if LG = LO then ham G O LG else 99) = v := ⟨_, rfl⟩
                      rw [hv] at hBC
                      have HV := Aside0.mk hv
                      clear hv
                      go_wp2
                      go_quiet ((go_at_call 13; exact hBC _))
                      by_cases hv1 : v ≤ 1
                      · have hvd : decide (v ≤ 1) = true := decide_eq_true hv1
                        go_wp2
                        go_round
                        case rel => exact ⟨t + 1, m2 + nq, true, by omega, by go_num, by simp [hv1], by rw [HWz.out]; simp, ⟨fun p _ _ _ => rfl⟩⟩
                        case measure => simp [intOf]; omega
                      · have hvd : decide (v ≤ 1) = false := decide_eq_false hv1
                        go_wp2
                        go_round
                        case rel =>
                          refine ⟨t + 1, m2 + nq, false, by omega, by go_num, by simp [hv1], by rw [HWz.out]; simp, ⟨fun p hp hl hh => ?_⟩⟩
                          rcases HTt.out p hp with hp | rfl
                          · exact HAll.out p hp hl hh
                          · rw [HG.out] at hl hh
                            have h := HV.out
                            rw [HLG.out] at hl
                            rw [if_pos hl] at h
                            rw [hl] at h
                            omega
                        case measure => simp [intOf]; omega
                    · go_wp2
                      go_quiet (fail)
                      go_wp2
                      go_round
                      case rel => exact ⟨t + 1, m2 + nq, true, by omega, by go_num, rfl, by rw [HWz.out]; simp, ⟨fun p _ _ _ => rfl⟩⟩
                      case measure => simp [intOf]; omega
                  · obtain rfl : t = ni := by omega
                    have hb : b = true := by
                      obtain ⟨hp0, hnear⟩ := HNear.out
                      obtain ⟨i0, hi0, e0⟩ := List.getElem_of_mem hp0
                      have hbp := HOK.out p0 (HSub.out p0 hp0)
                      obtain ⟨n1', n2'⟩ := hnear.ham hbp
                      have eg : ins.getD i0 [] = p0 := by rw [← e0]; simp [List.getD_eq_getElem?_getD, hi0]
                      refine HAll.out i0 (by have := HNi.out; omega) (by rw [eg]; have := HLO.out; omega) ?_
                      rw [eg]
                      have : p0.length = LO := by have := HLO.out; omega
                      rw [← this]; exact n2'
                    subst hb
                    clear hwz
                    go_wp2
                    go_round
                    case rel => exact ⟨q + 1, m2, by omega, by go_num, HWz.out⟩
                    case measure => simp [intOf]; omega
              · obtain rfl : q = nr := by omega
                clear hwq
                have hfew2 : (q : Int) ≤ 2 * (ni : Int) := by omega
                have hfew3 : decide ((q : Int) ≤ 2 * (ni : Int)) = true := decide_eq_true hfew2
                have HBq := Aside0.mk (show Below w.heap.size w wr by rw [HWq.out]; exact pw_below_drewN HB3.out m)
                go_wp2_with fail
                (with_reducible refine (firstL_any _).mono ?_)
                rintro _ w7 ⟨rfl, hb7⟩
                have HB7 := Aside0.mk (below_two HBq.out hb7)
                clear hb7
                go_wp2
                go_ret
                exact ⟨by simp, HB7.out⟩
          · have hcl := HIv.out.clean rfl
            have HCl := Aside0.mk (show s.r = ins by rw [hcl])
            have hrn : nr = ni := by rw [← HNr.out, ← HNi.out, HCl.out]
            clear hcl
            subst hrn
            go_wp2_with fail
            (with_reducible refine (firstL_any _).mono ?_)
            rintro _ w7 ⟨rfl, hb7⟩
            have HB7 := Aside0.mk (below_two HB3.out hb7)
            have HRi7 := Aside0.mk (HRi.out.below hb7)
            have HRo7 := Aside0.mk (show ReadsL w7 A3 nr ins by rw [← HCl.out]; exact HRo.out.below hb7)
            clear hb7
            go_wp2_with fail
            (with_reducible refine (lists_same Ai A3 nr ci c3 ins _ HRi7.out HRo7.out (fun f hf => HOK.out f (HSub.out f hf))).mono ?_)
            rintro _ w8 ⟨rfl, m8, rfl⟩
            go_wp2
            go_ret
            exact ⟨rfl, pw_below_drewN HB7.out m8⟩
end Go.Proofs.Ythdjlhhdjanocaa
