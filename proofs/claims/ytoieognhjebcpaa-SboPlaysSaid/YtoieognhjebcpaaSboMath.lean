/- Select before operate in plain words: what a box has, what is live, what matches. No condition. -/
import Derived.Laws.BitsLemmas
import Derived.RowKit
set_option linter.unusedVariables false
namespace SboMath
open Go
/-- A box: its ticks, is something selected, when, under which number, which bytes. -/
structure Bx where
  ticks : Int
  is : Bool
  at_ : Int
  seq : Int
  b : List Int
def u64 (n : Int) : Int := IntKind.u64.wrap n
/-- In time? -/
def inTime (at_ ticks now : Int) : Bool := decide (IntKind.u64.wrap (IntKind.u64.wrap now - IntKind.u64.wrap at_) < IntKind.u64.wrap ticks)
def Bx.live (x : Bx) (now : Int) : Bool := x.is && (decide (x.at_ ≤ now) && inTime x.at_ x.ticks now)
def Bx.hit (x : Bx) (now seq : Int) (l : List Int) : Bool := x.live now && (decide (seq % 16 = (x.seq + 1) % 16) && decide (l = x.b))
def Bx.sel (x : Bx) (now seq : Int) (l : List Int) : Bx := { x with is := true, at_ := now, seq := seq % 16, b := l }
def Bx.void (x : Bx) : Bx := { x with is := false, at_ := 0, seq := 0, b := [] }
def Bx.off (x : Bx) : Bx := { x with is := false }
def Bx.new (ticks : Int) : Bx := ⟨if ticks < 1 then 1 else ticks, false, 0, 0, []⟩
/-- What a match leaves: the box void if it matched, as it was if not. -/
def Bx.matched (x : Bx) (b : Bool) : Bx := if b then x.void else x
def Bx.matchedR (x : Bx) (b : Bool) : Bx := if b then x.off else x
theorem and15 (a : Int) : bits .and .i64 a 15 = a % 16 := by
  have e : (15 : Int) = ((15 : Nat) : Int) := rfl
  have h : (BitVec.ofInt IntKind.i64.bits a &&& BitVec.ofInt IntKind.i64.bits 15).toNat = (a % 16).toNat := by
    rw [BitVec.toNat_and, e, BitVec.ofInt_natCast, BitVec.toNat_ofNat]
    have : (15 : Nat) % 2 ^ IntKind.i64.bits = 2 ^ 4 - 1 := by decide
    rw [this, Nat.and_two_pow_sub_one_eq_mod, BitVec.toNat_ofInt]
    show (a % ((2 ^ 64 : Nat) : Int)).toNat % 2 ^ 4 = _
    omega
  show IntKind.i64.wrap _ = _
  rw [h, IntKind.wrap_i64]
  omega
theorem wrap_u64 (n : Int) : IntKind.u64.wrap n = n % 18446744073709551616 := by simp [IntKind.wrap, IntKind.bits, IntKind.signed]
theorem inTime_plain {at_ ticks now : Int} (h0 : 0 ≤ at_) (h1 : at_ ≤ now) (h2 : now ≤ 9223372036854775807) (h3 : 1 ≤ ticks) (h4 : ticks ≤ 9223372036854775807) : inTime at_ ticks now = decide (now - at_ < ticks) := by
  unfold inTime
  rw [wrap_u64, wrap_u64, wrap_u64, wrap_u64]
  congr 1
  apply propext
  constructor <;> intro h <;> omega
theorem new_ticks (t : Int) : 1 ≤ (Bx.new t).ticks := by unfold Bx.new; show 1 ≤ (if t < 1 then 1 else t); split <;> omega
theorem new_ticks_le (t : Int) (h : t ≤ 9223372036854775807) : (Bx.new t).ticks ≤ 9223372036854775807 := by unfold Bx.new; show (if t < 1 then 1 else t) ≤ _; split <;> omega
/-- A selection made in plain times: what an operate at 'at_ + after' finds. -/
theorem hit_plain {x : Bx} {at_ after seq next : Int} {l m : List Int} (h0 : 0 ≤ at_) (h1 : at_ ≤ 1099511627776) (h2 : 0 ≤ after) (h3 : after ≤ 1099511627776) (ht : 1 ≤ x.ticks) (hu : x.ticks ≤ 9223372036854775807) :
    (x.sel at_ seq l).hit (at_ + after) next m = (decide (after < x.ticks) && ((next % 16 == (seq + 1) % 16) && decide (m = l))) := by
  have e0 : (seq % 16 + 1) % 16 = (seq + 1) % 16 := by omega
  have e : (x.sel at_ seq l).live (at_ + after) = decide (after < x.ticks) := by
    show (true && (decide (at_ ≤ at_ + after) && inTime at_ x.ticks (at_ + after))) = _
    rw [inTime_plain h0 (by omega) (by omega) ht hu, decide_eq_true (show at_ ≤ at_ + after by omega)]
    simp only [Bool.true_and]
    congr 1
    apply propext
    constructor <;> intro h <;> omega
  show ((x.sel at_ seq l).live (at_ + after) && (decide (next % 16 = (seq % 16 + 1) % 16) && decide (m = l))) = _
  rw [e, e0]; rfl
theorem live_plain {x : Bx} {at_ now seq : Int} {l : List Int} (h0 : 0 ≤ at_) (h1 : at_ ≤ 1099511627776) (h2 : 0 ≤ now) (h3 : now ≤ 1099511627776) (ht : 1 ≤ x.ticks) (hu : x.ticks ≤ 9223372036854775807) :
    (x.sel at_ seq l).live now = (decide (at_ ≤ now) && decide (now - at_ < x.ticks)) := by
  show (true && (decide (at_ ≤ now) && inTime at_ x.ticks now)) = _
  by_cases h : at_ ≤ now
  · rw [inTime_plain h0 h (by omega) ht hu]; rfl
  · simp [h]
theorem hit_void (x : Bx) (now seq : Int) (l : List Int) : x.void.hit now seq l = false := rfl
theorem live_void (x : Bx) (now : Int) : x.void.live now = false := rfl
end SboMath
