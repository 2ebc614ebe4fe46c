/- The secondary station: a frame, whichever. Conditions: bytes are bytes. -/
import Derived.Test.YtpepgblmcjgbgaaStD
namespace Go.Proofs.Ytpepgblmcjgbgaa
open Go.RowKit Go.Proofs.YtpepgblmcjgbgaaW.PrintWords
set_option linter.unusedVariables false

theorem take_any (B g : Nat) (s : St) (ctl dest src : Int) (A : Option Addr) (n c : Nat) (l : List Int) (w : World) (hs : IsSt B w g s) (hr : ∀ w1, Chg g w w1 → ReadsInt w1 .u8 A n l) (hsz : n ≤ 140737488355328) :
    Calls Try.prog 11 #[.pointer (some ⟨g, 0, none⟩), .agg #[.int .i64 ctl, .int .i64 dest, .int .i64 src, .slice A n c]] w (TakePost B g s (tk s ctl dest src) l w) := by
  have HR := Aside0.mk hr
  cases hd : deafB s ctl dest src with
  | true => exact take_deaf B g s ctl dest src A n c l w hs hd
  | false =>
    have hd0 := hd
    unfold deafB at hd
    rw [Bool.or_eq_false_iff, Bool.or_eq_false_iff, Bool.or_eq_false_iff, Bool.or_eq_false_iff] at hd
    obtain ⟨⟨⟨⟨e1, e2⟩, e3⟩, e4⟩, e5⟩ := hd
    cases e6 : (bits .and .i64 ctl 15 == 2) with
    | true =>
      have hx : bits .and .i64 ctl 15 = 2 := by simpa using e6
      have e7 : (bits .and .i64 ctl 15 == 3) = false := by rw [hx]; rfl
      have e8 : (bits .and .i64 ctl 15 == 0) = false := by rw [hx]; rfl
      rw [e6, e7] at e5
      have e5 : (bits .and .i64 ctl 16 != 0) = true := by
        cases h : (bits .and .i64 ctl 16 != 0) with
        | true => rfl
        | false => rw [h] at e5; exact absurd e5 (by decide)
      cases er : s.ready with
      | false => exact take_nack2 B g s ctl dest src A n c l w hs e1 e2 e3 e4 e5 e6 e7 e8 er (Aside0.mk (by unfold tk; rw [hd0, e6, e8, er]; rfl))
      | true =>
        cases ef : (bits .and .i64 ctl 32 != 0) <;> cases ep : s.expect
        · exact take_tog2false B g s ctl dest src A n c l w hs e1 e2 e3 e4 e5 e6 e7 e8 er ef ep (Aside0.mk (by unfold tk; rw [hd0, e6, e7, e8, er, ef, ep]; rfl))
        · exact take_again2 B g s ctl dest src A n c l w hs e1 e2 e3 e4 e5 e6 e7 e8 er (by rw [ef, ep]; rfl) (Aside0.mk (by unfold tk; rw [hd0, e6, e8, er, ef, ep]; rfl))
        · exact take_again2 B g s ctl dest src A n c l w hs e1 e2 e3 e4 e5 e6 e7 e8 er (by rw [ef, ep]; rfl) (Aside0.mk (by unfold tk; rw [hd0, e6, e8, er, ef, ep]; rfl))
        · exact take_tog2true B g s ctl dest src A n c l w hs e1 e2 e3 e4 e5 e6 e7 e8 er ef ep (Aside0.mk (by unfold tk; rw [hd0, e6, e7, e8, er, ef, ep]; rfl))
    | false =>
      cases e7 : (bits .and .i64 ctl 15 == 3) with
      | true =>
        have hx : bits .and .i64 ctl 15 = 3 := by simpa using e7
        have e8 : (bits .and .i64 ctl 15 == 0) = false := by rw [hx]; rfl
        rw [e6, e7] at e5
        have e5 : (bits .and .i64 ctl 16 != 0) = true := by
          cases h : (bits .and .i64 ctl 16 != 0) with
          | true => rfl
          | false => rw [h] at e5; exact absurd e5 (by decide)
        cases er : s.ready with
        | false => exact take_nack3 B g s ctl dest src A n c l w hs e1 e2 e3 e4 e5 e6 e7 e8 er (Aside0.mk (by unfold tk; rw [hd0, e6, e7, e8, er]; rfl))
        | true =>
          cases ef : (bits .and .i64 ctl 32 != 0) <;> cases ep : s.expect
          · exact take_tog3false B g s ctl dest src A n c l w hs e1 e2 e3 e4 e5 e6 e7 e8 er ef ep HR hsz (Aside0.mk (by unfold tk; rw [hd0, e6, e7, e8, er, ef, ep]; rfl))
          · exact take_again3 B g s ctl dest src A n c l w hs e1 e2 e3 e4 e5 e6 e7 e8 er (by rw [ef, ep]; rfl) (Aside0.mk (by unfold tk; rw [hd0, e6, e7, e8, er, ef, ep]; rfl))
          · exact take_again3 B g s ctl dest src A n c l w hs e1 e2 e3 e4 e5 e6 e7 e8 er (by rw [ef, ep]; rfl) (Aside0.mk (by unfold tk; rw [hd0, e6, e7, e8, er, ef, ep]; rfl))
          · exact take_tog3true B g s ctl dest src A n c l w hs e1 e2 e3 e4 e5 e6 e7 e8 er ef ep HR hsz (Aside0.mk (by unfold tk; rw [hd0, e6, e7, e8, er, ef, ep]; rfl))
      | false =>
        rw [e6, e7] at e5
        have e5 : (bits .and .i64 ctl 16 != 0) = false := by
          cases h : (bits .and .i64 ctl 16 != 0) with
          | false => rfl
          | true => rw [h] at e5; exact absurd e5 (by decide)
        cases e8 : (bits .and .i64 ctl 15 == 0) with
        | true => exact take_reset B g s ctl dest src A n c l w hs e1 e2 e3 e4 e5 e6 e7 e8 (Aside0.mk (by unfold tk; rw [hd0, e8]; rfl))
        | false =>
          cases e9 : (bits .and .i64 ctl 15 == 4) with
          | true => exact take_plain B g s ctl dest src A n c l w hs e1 e2 e3 e4 e5 e6 e7 e8 e9 HR hsz (Aside0.mk (by unfold tk; rw [hd0, e6, e7, e8, e9]; rfl))
          | false =>
            cases e10 : (bits .and .i64 ctl 15 == 9) with
            | true => exact take_status B g s ctl dest src A n c l w hs e1 e2 e3 e4 e5 e6 e7 e8 e9 e10 (Aside0.mk (by unfold tk; rw [hd0, e6, e7, e8, e9, e10]; rfl))
            | false => exact take_rest B g s ctl dest src A n c l w hs e1 e2 e3 e4 e5 e6 e7 e8 e9 e10 (Aside0.mk (by unfold tk; rw [hd0, e6, e7, e8, e9, e10]; rfl))
end Go.Proofs.Ytpepgblmcjgbgaa
