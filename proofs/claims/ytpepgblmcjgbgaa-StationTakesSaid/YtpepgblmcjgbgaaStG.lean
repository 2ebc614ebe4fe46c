/- The secondary station: frames few and short. Conditions: the arguments read as data. -/
import Derived.Test.YtpepgblmcjgbgaaStF
namespace Go.Proofs.Ytpepgblmcjgbgaa
open Go.RowKit Go.Proofs.YtpepgblmcjgbgaaW.PrintWords
set_option linter.unusedVariables false

/-! The law's 'few': frames few and short. -/
abbrev Fr := K_link_Frame
def cut1 (n : Nat) : Nat := if 6001 < n then 6001 else n
def total : List Fr → Nat
  | [] => 0
  | o :: l => cut1 o.Data.length + total l
theorem total_append (l m : List Fr) : total (l ++ m) = total l + total m := by
  induction l with
  | nil => simp [total]
  | cons o l ih => simp [total, ih, Nat.add_assoc]
theorem total_le (l : List Fr) : total l ≤ 6001 * l.length := by
  induction l with
  | nil => simp [total]
  | cons o l ih => simp only [total, List.length_cons]; unfold cut1; split <;> omega
theorem getD_op (l : List Fr) (j : Nat) (h : j < l.length) : l.getD j zK_link_Frame ∈ l := by simp [List.getD_eq_getElem?_getD, List.getElem?_eq_getElem h]
def fewB (l : List Fr) : Bool := decide (l.length ≤ 200) && decide (total (l.take 200) ≤ 6000)
theorem few_small {l : List Fr} (h : fewB l = true) : l.length ≤ 200 ∧ ∀ o ∈ l, o.Data.length ≤ 6000 := by
  simp only [fewB, Bool.and_eq_true, decide_eq_true_eq] at h
  obtain ⟨h1, h2⟩ := h
  rw [List.take_of_length_le h1] at h2
  refine ⟨h1, fun o ho => ?_⟩
  obtain ⟨a, b, rfl⟩ := List.append_of_mem ho
  rw [total_append] at h2
  simp only [total] at h2
  unfold cut1 at h2
  split at h2 <;> omega

set_option maxHeartbeats 2000000 in
set_option maxRecDepth 100000 in
theorem few_any (A : Option Addr) (n c : Nat) (l : List Fr) (w : World) (h : kdK_link_Frame.C w A n l) :
    Calls Try.prog 14 #[.slice A n c] w (BoolPost (fewB l) w) := by
  have hn : n ≤ 9223372036854775807 := h.2.1
  have HL := Aside0.mk (show l.length = n from h.1)
  have H := Aside0.mk h
  clear h
  go_enter Try.func14, Try.ntmps14
  go_wp2
  go_loop [3, 4] (fun t i => ∃ k : Nat, k ≤ n ∧ k ≤ 200 ∧ i = .int .i64 k ∧ t = .int .i64 (total (l.take k) : Nat)) (fun _ i => n - (intOf i).toNat)
  case atStart => exact ⟨0, Nat.zero_le _, Nat.zero_le _, rfl, rfl⟩
  case round =>
    obtain ⟨k, hk, hk2, rfl, rfl⟩ := hrel
    by_cases hlt : k < n ∧ k < 200
    · obtain ⟨hl1, hl2⟩ := hlt
      obtain ⟨ad, A3, c3, rfl, _, _, _, hc3, _, _⟩ := K_link_Frame_at H.out k (by omega) (by omega)
      rw [Int.toNat_natCast] at hc3
      have hT := total_le (l.take k)
      have hT2 : (l.take k).length ≤ k := List.length_take_le _ _
      have HT := Aside0.mk (show total (l.take (k + 1)) = total (l.take k) + cut1 (l.getD k zK_link_Frame).Data.length by
        have : l.take (k + 1) = l.take k ++ [l.getD k zK_link_Frame] := by
          rw [List.take_succ_eq_append_getElem (by rw [HL.out]; exact hl1)]; simp [List.getD_eq_getElem?_getD, List.getElem?_eq_getElem (show k < l.length by rw [HL.out]; exact hl1)]
        rw [this, total_append]; simp [total])
      obtain ⟨L, hLL⟩ : ∃ L, (l.getD k zK_link_Frame).Data.length = L := ⟨_, rfl⟩
      obtain ⟨T, hTT⟩ : ∃ T, total (l.take k) = T := ⟨_, rfl⟩
      rw [hLL] at hc3 HT
      rw [hTT] at hT HT ⊢
      have hTb : T ≤ 6001 * 200 := by omega
      clear hT hT2 hLL hTT
      by_cases hb : 6001 < L
      · have HE := Aside0.mk (show cut1 L = 6001 by unfold cut1; rw [if_pos hb])
        go_wp2
        all_goals
          go_round
          case rel => exact ⟨k + 1, by omega, by omega, by go_num, by rw [HT.out, HE.out]; go_num⟩
          case measure => simp [intOf]; omega
      · have HE := Aside0.mk (show cut1 L = L by unfold cut1; rw [if_neg hb])
        go_wp2
        all_goals
          go_round
          case rel => exact ⟨k + 1, by omega, by omega, by go_num, by rw [HT.out, HE.out]; go_num⟩
          case measure => simp [intOf]; omega
    · by_cases h2 : n ≤ 200
      · obtain rfl : k = n := by omega
        have HF := Aside0.mk (show fewB l = decide (total (l.take k) ≤ 6000) by
          unfold fewB
          rw [decide_eq_true (show l.length ≤ 200 by rw [HL.out]; exact h2), List.take_of_length_le (show l.length ≤ 200 by rw [HL.out]; exact h2), List.take_of_length_le (show l.length ≤ k by rw [HL.out]; exact Nat.le_refl _)]; rfl)
        obtain ⟨T, hTT⟩ : ∃ T, total (l.take k) = T := ⟨_, rfl⟩
        rw [hTT] at HF ⊢
        clear hTT
        by_cases h3 : T ≤ 6000
        · rw [decide_eq_true h3] at HF
          go_wp2
          go_ret
          exact ⟨by rw [HF.out]; simp; omega, rfl⟩
        · rw [decide_eq_false h3] at HF
          go_wp2
          go_ret
          exact ⟨by rw [HF.out]; simp; omega, rfl⟩
      · have HF := Aside0.mk (show fewB l = false by unfold fewB; rw [decide_eq_false (show ¬ l.length ≤ 200 by rw [HL.out]; exact h2)]; rfl)
        obtain ⟨T, hTT⟩ : ∃ T, total (l.take k) = T := ⟨_, rfl⟩
        rw [hTT]
        clear hTT
        go_wp2
        go_ret
        exact ⟨by rw [HF.out]; simp, rfl⟩
/-- The link's bits: both of DIR and PRM, or not. -/
theorem bits_link (c : Int) : (bits .and .i64 c 192 != 192) = ((bits .and .i64 c 128 == 0) || (bits .and .i64 c 64 == 0)) := by
  have key : ∀ x : BitVec 64, (IntKind.i64.wrap ((x &&& BitVec.ofInt 64 192).toNat : Int) != 192) = ((IntKind.i64.wrap ((x &&& BitVec.ofInt 64 128).toNat : Int) == 0) || (IntKind.i64.wrap ((x &&& BitVec.ofInt 64 64).toNat : Int) == 0)) := by
    intro x
    have h7 : x &&& BitVec.ofInt 64 128 = if x.getLsbD 7 then BitVec.ofInt 64 128 else 0#64 := BitVec.and_twoPow x 7
    have h6 : x &&& BitVec.ofInt 64 64 = if x.getLsbD 6 then BitVec.ofInt 64 64 else 0#64 := BitVec.and_twoPow x 6
    have h : x &&& BitVec.ofInt 64 192 = (x &&& BitVec.ofInt 64 128) ||| (x &&& BitVec.ofInt 64 64) := by
      rw [← BitVec.and_or_distrib_left]; rfl
    rw [h, h7, h6]
    cases x.getLsbD 7 <;> cases x.getLsbD 6 <;> decide
  exact key (BitVec.ofInt 64 c)
end Go.Proofs.Ytpepgblmcjgbgaa
