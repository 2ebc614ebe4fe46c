/- The secondary station: what a frame does to its state, in plain words. No condition. -/
import Derived.Test.YtpepgblmcjgbgaaStG
namespace Go.Proofs.Ytpepgblmcjgbgaa
open Go.RowKit Go.Proofs.YtpepgblmcjgbgaaW.PrintWords
set_option linter.unusedVariables false
def oursB (c d r : Int) : Bool := (d == 1) && ((r == 2) && (bits .and .i64 c 192 == 192))
theorem deaf_ours (s : St) (c d r : Int) (h1 : s.own = 1) (h2 : s.master = 2) :
    deafB s c d r = (!oursB c d r || ((bits .and .i64 c 16 != 0) != (bits .and .i64 c 15 == 2 || bits .and .i64 c 15 == 3))) := by
  have hb := bits_link c
  unfold deafB oursB
  rw [h1, h2]
  have e : (bits .and .i64 c 192 == 192) = !((bits .and .i64 c 128 == 0) || (bits .and .i64 c 64 == 0)) := by
    rw [← hb]; unfold bne; rw [Bool.not_not]
  rw [e]
  unfold bne
  generalize (d == 1) = a1
  generalize (r == 2) = a2
  generalize (bits .and .i64 c 128 == 0) = a3
  generalize (bits .and .i64 c 64 == 0) = a4
  generalize ((!(bits .and .i64 c 16 == 0)) == (bits .and .i64 c 15 == 2 || bits .and .i64 c 15 == 3)) = a5
  revert a1 a2 a3 a4 a5
  decide
/-- What a frame does to the station's state: a reset sets it, a confirmed one that is expected turns it, no other. -/
theorem tk_tog (s : St) (c d r : Int) (h1 : s.own = 1) (h2 : s.master = 2) :
    (tk s c d r).st = if (oursB c d r && ((bits .and .i64 c 16 == 0) && (bits .and .i64 c 15 == 0))) = true then { s with ready := true, expect := true }
      else if ((oursB c d r && ((bits .and .i64 c 16 != 0) && ((bits .and .i64 c 15 == 2) || (bits .and .i64 c 15 == 3)))) && (s.ready && ((bits .and .i64 c 32 != 0) == s.expect))) = true then { s with expect := !s.expect } else s := by
  have hd := deaf_ours s c d r h1 h2
  obtain ⟨o, m, rd, ex⟩ := s
  unfold tk
  rw [hd]
  by_cases hx0 : bits .and .i64 c 15 = 0
  · rw [hx0]
    cases oursB c d r <;> cases h16 : (bits .and .i64 c 16 == 0) <;> simp [bne, h16]
  · by_cases hx2 : bits .and .i64 c 15 = 2
    · rw [hx2]
      cases oursB c d r <;> cases h16 : (bits .and .i64 c 16 == 0) <;> cases h32 : (bits .and .i64 c 32 == 0) <;> cases rd <;> cases ex <;> simp [bne, h16, h32]
    · by_cases hx3 : bits .and .i64 c 15 = 3
      · rw [hx3]
        cases oursB c d r <;> cases h16 : (bits .and .i64 c 16 == 0) <;> cases h32 : (bits .and .i64 c 32 == 0) <;> cases rd <;> cases ex <;> simp [bne, h16, h32]
      · have e0 : (bits .and .i64 c 15 == 0) = false := by simpa using hx0
        have e2 : (bits .and .i64 c 15 == 2) = false := by simpa using hx2
        have e3 : (bits .and .i64 c 15 == 3) = false := by simpa using hx3
        rw [e0, e2, e3]
        unfold bne
        generalize (bits .and .i64 c 15 == 4) = b4
        generalize (bits .and .i64 c 15 == 9) = b9
        generalize (bits .and .i64 c 16 == 0) = b16
        cases oursB c d r <;> cases b16 <;> cases b4 <;> cases b9 <;> simp
end Go.Proofs.Ytpepgblmcjgbgaa
