/- The line that fails: what comes out was put in, in plain words. No condition. -/
import Derived.Test.YthdjlhhdjanocaaLnH
namespace Go.Proofs.Ythdjlhhdjanocaa
open Go.RowKit Go.Proofs.YthdjlhhdjanocaaW.PrintWords
set_option linter.unusedVariables false
theorem pop_same : ∀ x : Fin 256, pop (bits .xor .u8 ((x.val : Nat) : Int) ((x.val : Nat) : Int)) 8 = 0 := by decide +kernel
theorem pop_flip : ∀ x : Fin 256, ∀ r : Fin 8, pop (bits .xor .u8 ((x.val : Nat) : Int) (bits .xor .u8 ((x.val : Nat) : Int) (2 ^ r.val % 256))) 8 = 1 := by decide +kernel
theorem pop_same' {x : Int} (h : 0 ≤ x ∧ x < 256) : pop (bits .xor .u8 x x) 8 = 0 := by
  have h1 := pop_same ⟨x.toNat, by omega⟩
  have e : ((x.toNat : Nat) : Int) = x := by omega
  simpa [e] using h1
theorem pop_flip' {x : Int} (h : 0 ≤ x ∧ x < 256) {r : Nat} (hr : r < 8) : pop (bits .xor .u8 x (bits .xor .u8 x (2 ^ r % 256))) 8 = 1 := by
  have h1 := pop_flip ⟨x.toNat, by omega⟩ ⟨r, hr⟩
  have e : ((x.toNat : Nat) : Int) = x := by omega
  simpa [e] using h1
theorem byte_at {f : List Int} (h : Bytes f) (i : Nat) : 0 ≤ f.getD i 0 ∧ f.getD i 0 < 256 := by
  by_cases hi : i < f.length
  · have e : f.getD i 0 = f[i] := by simp [List.getD_eq_getElem?_getD, hi]
    rw [e]; exact h _ (List.getElem_mem hi)
  · have e : f.getD i 0 = 0 := by simp [List.getD_eq_getElem?_getD, List.getElem?_eq_none (show f.length ≤ i by omega)]
    rw [e]; omega
theorem ham_same {f : List Int} (h : Bytes f) (n : Nat) : ham f f n = 0 := by
  induction n with
  | zero => rfl
  | succ n ih => simp only [ham, ih, pop_same' (byte_at h n)]; rfl
theorem ham_flip {f : List Int} (h : Bytes f) (bt : Nat) (hb : bt / 8 < f.length) (n : Nat) : ham f (flipB f bt) n = if bt / 8 < n then 1 else 0 := by
  induction n with
  | zero => simp [ham]
  | succ n ih =>
    simp only [ham, ih]
    by_cases hn : n = bt / 8
    · subst hn
      have e : (flipB f bt).getD (bt / 8) 0 = bits .xor .u8 (f.getD (bt / 8) 0) (2 ^ (bt % 8) % 256) := by
        unfold flipB
        have hr : rd f ((bt / 8 : Nat) : Int) = f.getD (bt / 8) 0 := by unfold rd; rw [Int.toNat_natCast]; try rfl
        rw [hr]
        simp [List.getD_eq_getElem?_getD, hb]
      rw [e, pop_flip' (byte_at h _) (by omega), if_neg (by omega), if_pos (by omega)]; rfl
    · have e : (flipB f bt).getD n 0 = f.getD n 0 := by
        unfold flipB
        simp only [List.getD_eq_getElem?_getD]
        rw [List.getElem?_set_ne (by omega)]
      rw [e, pop_same' (byte_at h n)]
      by_cases h1 : bt / 8 < n
      · rw [if_pos h1, if_pos (by omega)]; rfl
      · rw [if_neg h1, if_neg (by omega)]; rfl
/-- g is f, or f with one bit turned. -/
def Near (f g : List Int) : Prop := g = f ∨ ∃ bt, bt / 8 < f.length ∧ g = flipB f bt
theorem Near.ham {f g : List Int} (h : Near f g) (hb : Bytes f) : g.length = f.length ∧ ham f g f.length ≤ 1 := by
  rcases h with rfl | ⟨bt, h, rfl⟩
  · exact ⟨rfl, by rw [ham_same hb]; decide⟩
  · refine ⟨by unfold flipB; simp, ?_⟩
    rw [ham_flip hb bt h, if_pos h]; decide
/-- What holds of a line into which 'ins' went. -/
structure LInv (s : LS) (ins : List (List Int)) (clean : Bool) : Prop where
  near : ∀ g ∈ s.r ++ s.h.toList, ∃ f ∈ ins, Near f g
  few : s.r.length + s.h.toList.length ≤ 2 * ins.length
  clean : clean = true → s = ⟨0, 0, ins, none⟩
theorem LInv.fault {s : LS} {ins : List (List Int)} {c : Bool} (h : LInv s ins c) (k a : Int) : LInv (if 1 ≤ k ∧ k ≤ 4 then { s with k := k, a := a } else s) ins (if 1 ≤ k ∧ k ≤ 4 then false else c) := by
  by_cases hk : 1 ≤ k ∧ k ≤ 4
  · rw [if_pos hk, if_pos hk]; exact ⟨h.near, h.few, fun e => by cases e⟩
  · rw [if_neg hk, if_neg hk]; exact h
theorem freeS_mem (s : LS) : (freeS s).r ++ (freeS s).h.toList = s.r ++ s.h.toList := by
  unfold freeS
  cases h : s.h <;> simp [h]
theorem LInv.put {s : LS} {ins : List (List Int)} {c : Bool} (h : LInv s ins c) (f : List Int) : LInv (putS s f) (if f.length = 0 then ins else ins ++ [f]) c := by
  unfold putS
  by_cases h0 : f.length = 0
  · rw [if_pos h0, if_pos h0]; exact h
  rw [if_neg h0, if_neg h0]
  have up : ∀ g, (∃ f' ∈ ins, Near f' g) → ∃ f' ∈ ins ++ [f], Near f' g := fun g ⟨f', hf, hn⟩ => ⟨f', List.mem_append_left _ hf, hn⟩
  have me : ∃ f' ∈ ins ++ [f], Near f' f := ⟨f, by simp, .inl rfl⟩
  have fl : ∀ bt, bt / 8 < f.length → ∃ f' ∈ ins ++ [f], Near f' (flipB f bt) := fun bt hb => ⟨f, by simp, .inr ⟨bt, hb, rfl⟩⟩
  have hfew := h.few
  have gen : ∀ (s' : LS) (new : List (List Int)), s'.r ++ s'.h.toList = s.r ++ s.h.toList ++ new ∨ s'.r ++ s'.h.toList = s.r ++ new ++ s.h.toList → new.length ≤ 2 → (∀ g ∈ new, ∃ f' ∈ ins ++ [f], Near f' g) → (c = true → s' = ⟨0, 0, ins ++ [f], none⟩) → LInv s' (ins ++ [f]) c := by
    intro s' new he hl hn hc
    refine ⟨fun g hg => ?_, ?_, hc⟩
    · have hg' : g ∈ s.r ++ s.h.toList ∨ g ∈ new := by
        rcases he with he | he
        · rw [he] at hg; exact List.mem_append.1 hg
        · rw [he] at hg
          simp only [List.mem_append] at hg ⊢
          rcases hg with (hg | hg) | hg
          · exact .inl (.inl hg)
          · exact .inr hg
          · exact .inl (.inr hg)
      rcases hg' with hg | hg
      · exact up g (h.near g hg)
      · exact hn g hg
    · have h1 : (s'.r ++ s'.h.toList).length = s.r.length + s.h.toList.length + new.length := by
        rcases he with he | he <;> rw [he] <;> simp <;> omega
      simp only [List.length_append, List.length_cons, List.length_nil] at h1 ⊢
      omega
  by_cases h4 : s.k = 4
  · rw [if_pos h4]
    refine gen _ [f] (.inl ?_) (by simp) (fun g hg => by rw [List.mem_singleton.1 hg]; exact me) (fun e => ?_)
    · have e := freeS_mem { s with k := 0, a := 0 }
      have hh : (freeS { s with k := 0, a := 0 }).h = none := by unfold freeS; cases hx : s.h <;> simp
      rw [hh] at e
      simp only [Option.toList_none, List.append_nil] at e
      simp [e]
    · have hx := congrArg LS.k (h.clean e); rw [h4] at hx; replace hx : (4 : Int) = 0 := hx; omega
  rw [if_neg h4]
  by_cases h3 : s.k = 3
  · rw [if_pos h3]
    refine gen _ [f, f] (.inr ?_) (by simp) (fun g hg => by simp at hg; rw [hg]; exact me) (fun e => ?_)
    · rw [freeS_mem]; simp
    · have hx := congrArg LS.k (h.clean e); rw [h3] at hx; replace hx : (3 : Int) = 0 := hx; omega
  rw [if_neg h3]
  by_cases h2 : s.k = 2
  · rw [if_pos h2]
    refine gen _ [flipB f (bitOf s.a f.length)] (.inr ?_) (by simp) (fun g hg => by rw [List.mem_singleton.1 hg]; exact fl _ (by
      unfold bitOf
      have h1 := Int.emod_nonneg (if s.a < 0 then 0 else s.a) (show (8 * (f.length : Int)) ≠ 0 by omega)
      have h2 := Int.emod_lt_of_pos (if s.a < 0 then 0 else s.a) (show (0 : Int) < 8 * (f.length : Int) by omega)
      omega)) (fun e => ?_)
    · rw [freeS_mem]
    · have hx := congrArg LS.k (h.clean e); rw [h2] at hx; replace hx : (2 : Int) = 0 := hx; omega
  rw [if_neg h2]
  by_cases h1 : s.k = 1
  · rw [if_pos h1]
    refine gen _ [] (.inl (by simp)) (by simp) (fun g hg => by simp at hg) (fun e => ?_)
    have hx := congrArg LS.k (h.clean e); rw [h1] at hx; replace hx : (1 : Int) = 0 := hx; omega
  rw [if_neg h1]
  refine gen _ [f] (.inr ?_) (by simp) (fun g hg => by rw [List.mem_singleton.1 hg]; exact me) (fun e => ?_)
  · rw [freeS_mem]
  · rw [h.clean e]; rfl
end Go.Proofs.Ythdjlhhdjanocaa
