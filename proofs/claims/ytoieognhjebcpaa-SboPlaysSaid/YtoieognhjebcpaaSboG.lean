/- Select before operate: the reference's box, the law's 'few'. Conditions: bytes are bytes. -/
import Derived.Test.YtoieognhjebcpaaSboF
import Derived.Test.YtoieognhjebcpaaKinds
namespace Go.Proofs.Ytoieognhjebcpaa
open Go.RowKit SboMath Go.Proofs.YtoieognhjebcpaaW.PrintWords
set_option linter.unusedVariables false

theorem reads_int {k : IntKind} {w : World} {A : Option Addr} {n : Nat} {xs : List Int} (h : (Kd.int k).C w A n xs) : ReadsInt w k A n xs := Kd.reads_of_C (d := (0 : Int)) h

/-! The reference's box. -/
def IsRef (B : Nat) (w : World) (g : Nat) (x : Bx) : Prop :=
  ∃ v, w.heap[g]? = some (.cells #[.int .i64 x.ticks, .bool x.is, .int .i64 x.at_, .int .i64 x.seq, v] 40 (0, 0)) ∧ w.ownsRow B 5 1 v x.b.length (nums .u8 x.b) ∧ B ≤ g ∧ 0 ≤ x.seq ∧ x.seq < 16 ∧ Bytes x.b
def NewRef (B : Nat) (x : Bx) (w : World) (e : Ending) (w' : World) : Prop := ∃ g, e = .returned (.pointer (some ⟨g, 0, none⟩)) ∧ IsRef B w' g x ∧ w.heap.size ≤ g ∧ Below w.heap.size w w'

set_option maxHeartbeats 1000000 in
set_option maxRecDepth 100000 in
theorem newRef_any (B : Nat) (t : Int) (w : World) (hB : B ≤ w.heap.size) :
    Calls Try.prog 15 #[.int .i64 t] w (NewRef B (Bx.new t) w) := by
  go_enter Try.func15, Try.ntmps15
  go_wp2
  all_goals
    go_ret
    refine ⟨_, rfl, ⟨.slice none 0 0, ?_, own_nil _ _ _ _, hB, Int.le_refl _, (by decide : (0 : Int) < 16), bytes_nil⟩, Nat.le_refl _, below_alloc (Below.refl _ _) _⟩
  · rw [show Bx.new t = ⟨1, false, 0, 0, []⟩ by unfold Bx.new; rw [if_pos (by omega)]]; exact heap_alloc_new w _
  · rw [show Bx.new t = ⟨t, false, 0, 0, []⟩ by unfold Bx.new; rw [if_neg (by omega)]]; exact heap_alloc_new w _

set_option maxHeartbeats 1000000 in
set_option maxRecDepth 100000 in
theorem liveRef_any (B : Nat) (g : Nat) (x : Bx) (now : Int) (w : World) (hx : IsRef B w g x) (b : Bool) (hb : x.live now = b) :
    Calls Try.prog 21 #[.pointer (some ⟨g, 0, none⟩), .int .i64 now] w fun e w' => e = .returned (.bool b) ∧ ∃ n, w' = w.drewN n := by
  obtain ⟨v, hg, hv, hB, hs0, hs1, hbb⟩ := hx
  have c0 : w.cell? ⟨g, 0, none⟩ = some (.int .i64 x.ticks) := blk_cell hg 0
  have c1 : w.cell? ⟨g, 1, none⟩ = some (.bool x.is) := blk_cell hg 1
  have c2 : w.cell? ⟨g, 2, none⟩ = some (.int .i64 x.at_) := blk_cell hg 2
  clear hg hv hs0 hs1 hbb
  cases hi : x.is
  · have e := live_off hi now
    rw [hb] at e
    subst e
    rw [hi] at c1
    clear hi hb c0 c2
    go_enter Try.func21, Try.ntmps21
    go_wp2
    go_quiet (fail)
    go_wp2
    go_ret
    exact ⟨rfl, _, rfl⟩
  · rw [hi] at c1
    by_cases hn : x.at_ ≤ now
    · have e := live_on hi hn
      rw [hb] at e
      have HE := Aside0.mk e
      have hd : decide (x.at_ ≤ now) = true := decide_eq_true hn
      clear hi hb hn e
      go_enter Try.func21, Try.ntmps21
      go_wp2
      go_quiet (fail)
      go_wp2
      go_ret
      exact ⟨by rw [HE.out]; rfl, _, rfl⟩
    · have e := live_early hn
      rw [hb] at e
      subst e
      have hd : decide (x.at_ ≤ now) = false := decide_eq_false hn
      clear hi hb hn c0
      go_enter Try.func21, Try.ntmps21
      go_wp2
      go_quiet (fail)
      go_wp2
      go_ret
      exact ⟨rfl, _, rfl⟩

theorem mod_any (n : Int) (w : World) : Calls Try.prog 24 #[.int .i64 n] w fun e w' => e = .returned (.int .i64 (n % 16)) ∧ w = w' := by
  have h15 := and15
  go_enter Try.func24, Try.ntmps24
  go_wp2
  go_ret
  exact ⟨rfl, rfl⟩

theorem own_ref {w : World} {base n g : Nat} {v : Value} {xs : List Value} {cs : Array Value} {t : Nat} (h : w.ownsRow base 5 1 v n xs) (hg : w.heap[g]? = some (.cells cs t (0, 0))) (ht : 5 ≠ t) (i : Nat) (u : Value) : (w.setCell ⟨g, i, none⟩ u).ownsRow base 5 1 v n xs ∧ (w.setCell ⟨g, i, none⟩ u).heap[g]? = some (.cells (cs.setIfInBounds i u) t (0, 0)) :=
  ⟨own_setCell h (own_ne h hg ht) u, blk_set hg i u⟩

set_option maxHeartbeats 1000000 in
set_option maxRecDepth 100000 in
theorem selectRef_any (B : Nat) (g : Nat) (x : Bx) (now seq : Int) (A : Option Addr) (n c : Nat) (l : List Int) (w : World) (hx : IsRef B w g x) (HR : ReadsInt w .u8 A n l) (hb : Bytes l) (hsz : n ≤ 140737488355328) (hBw : B ≤ w.heap.size) :
    Calls Try.prog 17 #[.pointer (some ⟨g, 0, none⟩), .int .i64 now, .int .i64 seq, .slice A n c] w fun e w' => e = .returned (.tuple #[]) ∧ IsRef B w' g (x.sel now seq l) ∧ Chg g w w' ∧ RowFrom w.heap.size w' g := by
  obtain ⟨v, hg, hv, hB, hs0, hs1, hbb⟩ := hx
  have HR0 := Aside0.mk HR
  clear HR
  go_enter Try.func17, Try.ntmps17
  go_wp2_with fail
  (with_reducible refine (mod_any seq _).mono ?_)
  rintro e w' ⟨rfl, rfl⟩
  go_wp2_with fail
  (with_reducible refine (copyBytes_any A n c l _ HR0.out hsz).mono ?_)
  rintro e w1 ⟨v1, rfl, ho, hb1⟩
  have hg1 := (hb1.block g (blk_lt hg)).trans hg
  have HO := Aside0.mk (own_weaken ho hBw)
  have HF := Aside0.mk (own_base ho)
  have HG := Aside0.mk hg1
  have HC := Aside0.mk (Chg.of_below (g := g) hb1)
  have c1 : w1.cell? ⟨g, 1, none⟩ = some (.bool x.is) := blk_cell hg1 1
  have c2 : w1.cell? ⟨g, 2, none⟩ = some (.int .i64 x.at_) := blk_cell hg1 2
  have c3 : w1.cell? ⟨g, 3, none⟩ = some (.int .i64 x.seq) := blk_cell hg1 3
  have c4 : w1.cell? ⟨g, 4, none⟩ = some v := blk_cell hg1 4
  have f1 := blk_frozen hg1 1
  have f2 := blk_frozen hg1 2
  have f3 := blk_frozen hg1 3
  have f4 := blk_frozen hg1 4
  obtain ⟨A1, cc1, rfl⟩ := own_slice ho
  clear hg hg1 hv hs0 hs1 hbb hb1 ho
  go_wp2
  go_end0
  obtain ⟨o1, k1⟩ := own_ref HO.out HG.out (by decide) 1 (.bool true)
  obtain ⟨o2, k2⟩ := own_ref o1 k1 (by decide) 2 (.int .i64 now)
  obtain ⟨o3, k3⟩ := own_ref o2 k2 (by decide) 3 (.int .i64 (seq % 16))
  obtain ⟨o4, k4⟩ := own_ref o3 k3 (by decide) 4 (.slice A1 l.length cc1)
  refine ⟨rfl, ⟨.slice A1 l.length cc1, ?_, o4, hB, by show 0 ≤ seq % 16; omega, by show seq % 16 < 16; omega, hb⟩, HC.out.trans ((((Chg.refl g _).set 1 _).set 2 _ |>.set 3 _).set 4 _), ?_⟩
  · simpa [Bx.sel] using k4
  · intro cs t u h1 h2 k hk
    rw [k4] at h1
    injection h1 with h1
    injection h1 with h1
    subst h1
    simp at h2
    subst h2
    exact HF.out k hk

theorem IsRef.drewN {B : Nat} {w : World} {g : Nat} {x : Bx} (h : IsRef B w g x) (m : Nat) : IsRef B (w.drewN m) g x := h
theorem quietLive {B g : Nat} {x : Bx} {now : Int} {w : World} {n : Nat} (hx : IsRef B w g x) (b : Bool) (hb : x.live now = b) :
    Calls Try.prog 21 #[.pointer (some ⟨g, 0, none⟩), .int .i64 now] (w.drewN n) fun e w'' => e = .returned (.bool b) ∧ ∃ m, w'' = w.drewN m := quiet_draws (liveRef_any B g x now _ (hx.drewN n) b hb)
theorem quietMod {s : Int} {w : World} {n : Nat} : Calls Try.prog 24 #[.int .i64 s] (w.drewN n) fun e w'' => e = .returned (.int .i64 (s % 16)) ∧ ∃ m, w'' = w.drewN m := (mod_any s _).mono fun _ _ ⟨he, hm⟩ => ⟨he, n, hm.symm⟩

theorem quietBytes {A B : Option Addr} {n m c d : Nat} {l k : List Int} {w : World} {i : Nat} {b : Bool} (HR : ReadsInt w .u8 A n l) (HS : ReadsInt w .u8 B m k) (hl : Bytes l) (hk : Bytes k) (hb : decide (l = k) = b) :
    Calls Try.prog 11 #[.slice A n c, .slice B m d] (w.drewN i) fun e w'' => e = .returned (.bool b) ∧ ∃ m, w'' = w.drewN m := by
  subst hb
  exact quiet_same (bytes_any A B n m c d l k _ (reads_drewN HR i) (reads_drewN HS i) hl hk)
set_option maxHeartbeats 2000000 in
set_option maxRecDepth 100000 in
theorem matchRef_any (B : Nat) (g : Nat) (x : Bx) (now seq : Int) (A : Option Addr) (n c : Nat) (l : List Int) (w : World) (hx : IsRef B w g x) (HR : ReadsInt w .u8 A n l) (hb : Bytes l) (b : Bool) (hh : x.hit now seq l = b) :
    Calls Try.prog 18 #[.pointer (some ⟨g, 0, none⟩), .int .i64 now, .int .i64 seq, .slice A n c] w fun e w' => e = .returned (.bool b) ∧ IsRef B w' g (x.matchedR b) ∧ Chg g w w' := by
  have HX := Aside0.mk hx
  obtain ⟨v, hg, hv, hB, hs0, hs1, hbb⟩ := hx
  have HG := Aside0.mk hg
  have HV := Aside0.mk hv
  obtain ⟨A4, cc4, rfl, HS⟩ := own_reads hv
  have c1 : w.cell? ⟨g, 1, none⟩ = some (.bool x.is) := blk_cell hg 1
  have c3 : w.cell? ⟨g, 3, none⟩ = some (.int .i64 x.seq) := blk_cell hg 3
  have c4 : w.cell? ⟨g, 4, none⟩ = some (.slice A4 x.b.length cc4) := blk_cell hg 4
  have f1 := blk_frozen hg 1
  have hw1 : IntKind.i64.wrap (x.seq + 1) = x.seq + 1 := by rw [IntKind.wrap_i64]; omega
  have HRa := Aside0.mk HR
  have HSa := Aside0.mk HS
  have HBa := Aside0.mk hb
  have HBb := Aside0.mk hbb
  clear hg hv HR HS hb
  cases hl : x.live now
  · have e := hit_off (seq := seq) (l := l) hl
    rw [hh] at e
    subst e
    have HL := Aside0.mk hl
    clear hl hh c3 c4
    go_enter Try.func18, Try.ntmps18
    go_wp2_with fail
    go_quiet ((go_at_call 21; exact quietLive HX.out false HL.out))
    go_wp2
    go_ret
    exact ⟨rfl, HX.out.drewN _, (Chg.refl g w).drewN _⟩
  · have HL := Aside0.mk hl
    clear hl
    by_cases hq : seq % 16 = (x.seq + 1) % 16
    · have hqd : (seq % 16 != (x.seq + 1) % 16) = false := by simp [hq]
      by_cases hbe : l = x.b
      · have e := hit_on HL.out hq hbe
        rw [hh] at e
        subst e
        have HE := Aside0.mk (decide_eq_true hbe)
        clear hh hq hbe
        go_enter Try.func18, Try.ntmps18
        go_wp2_with fail
        go_quiet (first | (go_at_call 21; exact quietLive HX.out true HL.out) | (go_at_call 24; exact quietMod) | (go_at_call 11; exact quietBytes HRa.out HSa.out HBa.out HBb.out HE.out))
        go_wp2
        go_ret
        obtain ⟨o4, k4⟩ := own_ref HV.out HG.out (by decide) 1 (.bool false)
        refine ⟨rfl, ⟨_, ?_, o4, hB, hs0, hs1, HBb.out⟩, ?_⟩
        · have k5 : (w.setCell ⟨g, 1, none⟩ (.bool false)).heap[g]? = some (.cells #[.int .i64 x.ticks, .bool false, .int .i64 x.at_, .int .i64 x.seq, .slice A4 x.b.length cc4] 40 (0, 0)) := by simpa using k4
          exact k5
        · exact ⟨rfl, rfl, rfl, by simp [World.setCell], fun k hk hne => Below.heap_setCell w ⟨g, 1, none⟩ _ _ hne⟩
      · have e := hit_bytes (now := now) (seq := seq) hbe
        rw [hh] at e
        subst e
        have HE := Aside0.mk (decide_eq_false hbe)
        clear hh hq hbe
        go_enter Try.func18, Try.ntmps18
        go_wp2_with fail
        go_quiet (first | (go_at_call 21; exact quietLive HX.out true HL.out) | (go_at_call 24; exact quietMod) | (go_at_call 11; exact quietBytes HRa.out HSa.out HBa.out HBb.out HE.out))
        go_wp2
        go_ret
        exact ⟨rfl, HX.out.drewN _, (Chg.refl g w).drewN _⟩
    · have hqd : (seq % 16 != (x.seq + 1) % 16) = true := by simp [hq]
      have e := hit_seq (now := now) (l := l) hq
      rw [hh] at e
      subst e
      clear hh hq
      go_enter Try.func18, Try.ntmps18
      go_wp2_with fail
      go_quiet (first | (go_at_call 21; exact quietLive HX.out true HL.out) | (go_at_call 24; exact quietMod))
      go_wp2
      go_ret
      exact ⟨rfl, HX.out.drewN _, (Chg.refl g w).drewN _⟩

/-! The law's 'few': operations few and small. -/
abbrev Op := K_yardlaw20_Op
def cut1 (n : Nat) : Nat := if 6001 < n then 6001 else n
def total : List Op → Nat
  | [] => 0
  | o :: l => cut1 o.B.length + total l
theorem total_append (l m : List Op) : total (l ++ m) = total l + total m := by
  induction l with
  | nil => simp [total]
  | cons o l ih => simp [total, ih, Nat.add_assoc]
theorem total_le (l : List Op) : total l ≤ 6001 * l.length := by
  induction l with
  | nil => simp [total]
  | cons o l ih => simp only [total, List.length_cons]; unfold cut1; split <;> omega
theorem getD_op (l : List Op) (j : Nat) (h : j < l.length) : l.getD j zK_yardlaw20_Op ∈ l := by simp [List.getD_eq_getElem?_getD, List.getElem?_eq_getElem h]
def fewB (l : List Op) : Bool := decide (l.length ≤ 200) && decide (total (l.take 200) ≤ 6000)
theorem few_small {l : List Op} (h : fewB l = true) : l.length ≤ 200 ∧ ∀ o ∈ l, o.B.length ≤ 6000 := by
  simp only [fewB, Bool.and_eq_true, decide_eq_true_eq] at h
  obtain ⟨h1, h2⟩ := h
  rw [List.take_of_length_le h1] at h2
  refine ⟨h1, fun o ho => ?_⟩
  obtain ⟨a, b, rfl⟩ := List.append_of_mem ho
  rw [total_append] at h2
  simp only [total] at h2
  unfold cut1 at h2
  split at h2 <;> omega

set_option maxHeartbeats 2000000 in
set_option maxRecDepth 100000 in
theorem few_any (A : Option Addr) (n c : Nat) (l : List Op) (w : World) (h : kdK_yardlaw20_Op.C w A n l) :
    Calls Try.prog 14 #[.slice A n c] w (BoolPost (fewB l) w) := by
  have hn : n ≤ 9223372036854775807 := h.2.1
  have HL := Aside0.mk (show l.length = n from h.1)
  have H := Aside0.mk h
  clear h
  go_enter Try.func14, Try.ntmps14
  go_wp2
  go_loop [3, 4] (fun t i => ∃ k : Nat, k ≤ n ∧ k ≤ 200 ∧ i = .int .i64 k ∧ t = .int .i64 (total (l.take k) : Nat)) (fun _ i => n - (intOf i).toNat)
  case atStart => exact ⟨0, Nat.zero_le _, Nat.zero_le _, rfl, rfl⟩
  case round =>
    obtain ⟨k, hk, hk2, rfl, rfl⟩ := hrel
    by_cases hlt : k < n ∧ k < 200
    · obtain ⟨hl1, hl2⟩ := hlt
      obtain ⟨ad, A3, c3, rfl, _, _, _, hc3, _, _⟩ := K_yardlaw20_Op_at H.out k (by omega) (by omega)
      rw [Int.toNat_natCast] at hc3
      have hT := total_le (l.take k)
      have hT2 : (l.take k).length ≤ k := List.length_take_le _ _
      have HT := Aside0.mk (show total (l.take (k + 1)) = total (l.take k) + cut1 (l.getD k zK_yardlaw20_Op).B.length by
        have : l.take (k + 1) = l.take k ++ [l.getD k zK_yardlaw20_Op] := by
          rw [List.take_succ_eq_append_getElem (by rw [HL.out]; exact hl1)]; simp [List.getD_eq_getElem?_getD, List.getElem?_eq_getElem (show k < l.length by rw [HL.out]; exact hl1)]
        rw [this, total_append]; simp [total])
      obtain ⟨L, hLL⟩ : ∃ L, (l.getD k zK_yardlaw20_Op).B.length = L := ⟨_, rfl⟩
      obtain ⟨T, hTT⟩ : ∃ T, total (l.take k) = T := ⟨_, rfl⟩
      rw [hLL] at hc3 HT
      rw [hTT] at hT HT ⊢
      have hTb : T ≤ 6001 * 200 := by omega
      clear hT hT2 hLL hTT
      by_cases hb : 6001 < L
      · have HE := Aside0.mk (show cut1 L = 6001 by unfold cut1; rw [if_pos hb])
        go_wp2
        all_goals
          go_round
          case rel => exact ⟨k + 1, by omega, by omega, by go_num, by rw [HT.out, HE.out]; go_num⟩
          case measure => simp [intOf]; omega
      · have HE := Aside0.mk (show cut1 L = L by unfold cut1; rw [if_neg hb])
        go_wp2
        all_goals
          go_round
          case rel => exact ⟨k + 1, by omega, by omega, by go_num, by rw [HT.out, HE.out]; go_num⟩
          case measure => simp [intOf]; omega
    · by_cases h2 : n ≤ 200
      · obtain rfl : k = n := by omega
        have HF := Aside0.mk (show fewB l = decide (total (l.take k) ≤ 6000) by
          unfold fewB
          rw [decide_eq_true (show l.length ≤ 200 by rw [HL.out]; exact h2), List.take_of_length_le (show l.length ≤ 200 by rw [HL.out]; exact h2), List.take_of_length_le (show l.length ≤ k by rw [HL.out]; exact Nat.le_refl _)]; rfl)
        obtain ⟨T, hTT⟩ : ∃ T, total (l.take k) = T := ⟨_, rfl⟩
        rw [hTT] at HF ⊢
        clear hTT
        by_cases h3 : T ≤ 6000
        · rw [decide_eq_true h3] at HF
          go_wp2
          go_ret
          exact ⟨by rw [HF.out]; simp; omega, rfl⟩
        · rw [decide_eq_false h3] at HF
          go_wp2
          go_ret
          exact ⟨by rw [HF.out]; simp; omega, rfl⟩
      · have HF := Aside0.mk (show fewB l = false by unfold fewB; rw [decide_eq_false (show ¬ l.length ≤ 200 by rw [HL.out]; exact h2)]; rfl)
        obtain ⟨T, hTT⟩ : ∃ T, total (l.take k) = T := ⟨_, rfl⟩
        rw [hTT]
        clear hTT
        go_wp2
        go_ret
        exact ⟨by rw [HF.out]; simp, rfl⟩
end Go.Proofs.Ytoieognhjebcpaa
