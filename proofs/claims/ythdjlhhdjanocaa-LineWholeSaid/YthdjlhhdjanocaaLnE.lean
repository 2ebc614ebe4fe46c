/- The line that fails: any frame put; lists of frames alike. Conditions: the arguments read as data. -/
import Derived.Test.YthdjlhhdjanocaaLnD
import Derived.Test.YthdjlhhdjanocaaKinds
namespace Go.Proofs.Ythdjlhhdjanocaa
open Go.RowKit Go.Proofs.YthdjlhhdjanocaaW.PrintWords
set_option linter.unusedVariables false
def putS (s : LS) (f : List Int) : LS :=
  if f.length = 0 then s
  else if s.k = 4 then { freeS { s with k := 0, a := 0 } with h := some f }
  else if s.k = 3 then freeS { s with k := 0, a := 0, r := s.r ++ [f] ++ [f] }
  else if s.k = 2 then freeS { s with k := 0, a := 0, r := s.r ++ [flipB f (bitOf s.a f.length)] }
  else if s.k = 1 then { s with k := 0, a := 0 }
  else freeS { s with k := 0, a := 0, r := s.r ++ [f] }
set_option maxHeartbeats 1000000 in
set_option maxRecDepth 100000 in
theorem putL_none (B g : Nat) (rv : Value) (s : LS) (A : Option Addr) (c : Nat) (w : World) (hs : IsLn B w g rv s) :
    Calls Try.prog 10 #[.pointer (some ⟨g, 0, none⟩), .slice A 0 c] w (PutPost B g rv s w) := by
  have HS := Aside0.mk hs
  clear hs
  go_enter Try.func10, Try.ntmps10
  go_wp2
  first | go_ret | go_end0
  exact ⟨rfl, rv, HS.out, ChgL.refl _ _ _, Fresh.refl _ _⟩
theorem putL_any (B g : Nat) (rv : Value) (s : LS) (A : Option Addr) (n c : Nat) (l : List Int) (w : World) (hs : IsLn B w g rv s) (hr : ReadsInt w .u8 A n l) (hsz : n ≤ 1000000) (hlr : s.r.length ≤ 100000) (hBw : B ≤ w.heap.size) :
    Calls Try.prog 10 #[.pointer (some ⟨g, 0, none⟩), .slice A n c] w (PutPost B g rv (putS s l) w) := by
  have hnl : l.length = n := hr.1
  unfold putS
  by_cases h0 : l.length = 0
  · rw [if_pos h0]
    obtain rfl : n = 0 := by omega
    exact putL_none B g rv s A c w hs
  · rw [if_neg h0]
    have hn : 0 < n := by omega
    have b : ∀ i : Int, ¬ s.k = i → (s.k == i) = false := fun i h => by simpa using h
    have b1 : ∀ i : Int, s.k = i → (s.k == i) = true := fun i h => by simpa using h
    by_cases h4 : s.k = 4
    · rw [if_pos h4]; exact putL_hold B g rv s A n c l w hs hr hn hsz hlr hBw (b 1 (by omega)) (b 2 (by omega)) (b 3 (by omega)) (b1 4 h4)
    · rw [if_neg h4]
      by_cases h3 : s.k = 3
      · rw [if_pos h3]; exact putL_twice B g rv s A n c l w hs hr hn hsz hlr hBw (b 1 (by omega)) (b 2 (by omega)) (b1 3 h3) (b 4 h4)
      · rw [if_neg h3]
        by_cases h2 : s.k = 2
        · rw [if_pos h2, hnl]; exact putL_flip B g rv s A n c l w hs hr hn hsz hlr hBw (b 1 (by omega)) (b1 2 h2) (b 3 h3) (b 4 h4)
        · rw [if_neg h2]
          by_cases h1 : s.k = 1
          · rw [if_pos h1]; exact putL_lose B g rv s A n c l w hs hr hn hsz hlr hBw (b1 1 h1) (b 2 h2) (b 3 h3) (b 4 h4)
          · rw [if_neg h1]; exact putL_plain B g rv s A n c l w hs hr hn hsz hlr hBw (b 1 h1) (b 2 h2) (b 3 h3) (b 4 h4)
/-! Lists of frames. -/
abbrev kdL : Kd (List Int) := Kd.slice 5 (Kd.int .u8)
theorem sl_at {w : World} {A : Option Addr} {n : Nat} {xs : List (List Int)} (h : kdL.C w A n xs) (j : Nat) (hj : j < n) : ∃ ad B c, A = some ad ∧ w.cell? (ad.add j) = some (.slice B (xs.getD j []).length c) ∧ (xs.getD j []).length ≤ c ∧ (Kd.int .u8).C w B (xs.getD j []).length (xs.getD j []) := by
  obtain ⟨ad, c, e, _, hK, hc0⟩ := Kd.C_get h [] (j : Int) (by omega) (by omega)
  rw [Int.toNat_natCast] at hK hc0
  obtain ⟨B, k, rfl, hl, hC⟩ := hK
  refine ⟨ad, B, k, e, ?_, hl, hC⟩
  have := hc0 0 _ rfl
  simpa [Kd.slice] using this
/-- Frames that are read, one behind the other: each element's cell, and its bytes. -/
structure ReadsL (w : World) (A : Option Addr) (n : Nat) (r : List (List Int)) : Prop where
  len : r.length = n
  max : n ≤ 9223372036854775807
  get : ∀ j, j < n → ∃ ad B c, A = some ad ∧ w.cell? (ad.add j) = some (.slice B (r.getD j []).length c) ∧ ReadsInt w .u8 B (r.getD j []).length (r.getD j [])
theorem ReadsL.of_C {w : World} {A : Option Addr} {n : Nat} {r : List (List Int)} (h : kdL.C w A n r) : ReadsL w A n r :=
  ⟨h.1, h.2.1, fun j hj => by obtain ⟨ad, B, c, e, h1, _, h2⟩ := sl_at h j hj; exact ⟨ad, B, c, e, h1, reads_int h2⟩⟩
theorem ReadsL.below {w w1 : World} {A : Option Addr} {n : Nat} {r : List (List Int)} (h : ReadsL w A n r) (hb : Below w.heap.size w w1) : ReadsL w1 A n r :=
  ⟨h.len, h.max, fun j hj => by obtain ⟨ad, B, c, e, h1, h2⟩ := h.get j hj; exact ⟨ad, B, c, e, pw_cell_below hb h1, h2.below hb⟩⟩
theorem RowB.reads {B : Nat} {w : World} {rv : Value} {r : List (List Int)} (h : RowB B w rv r) : ∃ A c, rv = .slice A r.length c ∧ ReadsL w A r.length r := by
  obtain ⟨ps, h1, h2, h3⟩ := h
  have hl : r.length = ps.length := by rw [h1]; simp
  have hx : ps.length ≤ 9223372036854775807 := by
    rcases h2.2 with ⟨_, h0⟩ | ⟨g, cap, cur, _, _, _, hc, hm, _⟩
    · omega
    · unfold maxLen at hm; omega
  rcases h2.2 with ⟨rfl, h0⟩ | ⟨g, cap, cur, rfl, hg, hh, hc, hm, hsz, htk⟩
  · exact ⟨none, 0, by rw [hl, h0], ⟨rfl, by omega, fun j hj => by omega⟩⟩
  · refine ⟨some ⟨g, 0, none⟩, cap, by rw [hl], ⟨rfl, by omega, fun j hj => ?_⟩⟩
    have hjp : j < ps.length := by omega
    have hp := h3 ps[j] (List.getElem_mem hjp)
    have hrj : r.getD j [] = ps[j].2 := by rw [h1]; simp [List.getD_eq_getElem?_getD, hjp]
    obtain ⟨Bj, cj, hv, hrd⟩ := own_reads hp
    refine ⟨⟨g, 0, none⟩, Bj, cj, rfl, ?_, ?_⟩
    · rw [hrj, ← hv]
      have hcell : cur[j]? = some ps[j].1 := by
        have hx := congrArg (fun l => l[j]?) htk
        simp only [List.getElem?_take, Nat.mul_one, if_pos hjp, List.getElem?_map, List.getElem?_eq_getElem hjp, Option.map_some] at hx
        simpa using hx
      have hb := blk_cell hh j
      rw [hcell] at hb
      have ha : (⟨g, 0, none⟩ : Addr).add j = ⟨g, j, none⟩ := by unfold Addr.add; split <;> simp_all
      rw [ha]; exact hb
    · rw [hrj]; exact hrd
set_option maxHeartbeats 1000000 in
set_option maxRecDepth 100000 in
theorem lists_same (A A' : Option Addr) (n c c' : Nat) (r : List (List Int)) (w : World) (h : ReadsL w A n r) (h' : ReadsL w A' n r) (hb : ∀ f ∈ r, Bytes f) :
    Calls Try.prog 12 #[.slice A n c, .slice A' n c'] w (fun e w' => e = .returned (.bool true) ∧ ∃ m, w' = w.drewN m) := by
  have hn := h.max
  have H := Aside0.mk h
  have H' := Aside0.mk h'
  have HB := Aside0.mk hb
  clear h h' hb
  go_enter Try.func12, Try.ntmps12
  go_wp2
  go_loopw [5] (fun i wr => ∃ j m : Nat, j ≤ n ∧ i = .int .i64 j ∧ wr = w.drewN m) (fun i _ => n - (intOf i).toNat)
  case atStart => exact ⟨0, 0, Nat.zero_le _, rfl, rfl⟩
  case round =>
    obtain ⟨j, m, hj, rfl, hwr⟩ := hrel
    have HWr := Aside0.mk hwr
    by_cases hlt : j < n
    · obtain ⟨ad, B1, c1, rfl, k1, r1⟩ := H.out.get j hlt
      obtain ⟨ad', B2, c2, rfl, k2, r2⟩ := H'.out.get j hlt
      have hby := HB.out _ (show r.getD j [] ∈ r by simp [List.getD_eq_getElem?_getD, List.getElem?_eq_getElem (show j < r.length by rw [H.out.len]; exact hlt)])
      replace k1 : wr.cell? (ad.add j) = some (.slice B1 (r.getD j []).length c1) := by rw [hwr]; exact k1
      replace k2 : wr.cell? (ad'.add j) = some (.slice B2 (r.getD j []).length c2) := by rw [hwr]; exact k2
      have R1 := Aside0.mk (show ReadsInt wr .u8 B1 (r.getD j []).length (r.getD j []) by rw [hwr]; exact r1)
      have R2 := Aside0.mk (show ReadsInt wr .u8 B2 (r.getD j []).length (r.getD j []) by rw [hwr]; exact r2)
      clear hwr
      generalize r.getD j [] = f at k1 k2 hby R1 R2 r1 r2
      clear r1 r2
      go_wp2
      go_quiet ((go_at_call 18; exact quiet_same (bytes_same B1 B2 f.length f.length c1 c2 f _ (reads_drewN R1.out _) (reads_drewN R2.out _) hby)))
      go_wp2
      go_round
      case rel => exact ⟨j + 1, m + nq, by omega, by go_num, by rw [HWr.out]; simp⟩
      case measure => simp [intOf]; omega
    · obtain rfl : j = n := by omega
      clear hwr
      go_wp2
      go_ret
      exact ⟨rfl, m, HWr.out⟩
end Go.Proofs.Ythdjlhhdjanocaa
