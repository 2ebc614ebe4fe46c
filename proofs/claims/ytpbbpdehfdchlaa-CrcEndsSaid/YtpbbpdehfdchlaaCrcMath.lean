/- The plain mathematics of a check sum of 16 bits: a step is linear, one to one, and goes by its table. No condition. -/
import Derived.Laws.BitsLemmas
import Derived.RowKit
set_option linter.unusedVariables false
namespace CrcMath

/-- One bit's step. -/
def bs (p x : Nat) : Nat := if x % 2 = 1 then (x / 2) ^^^ p else x / 2
def it (p : Nat) : Nat → Nat → Nat
  | 0, x => x
  | n + 1, x => it p n (bs p x)
/-- A byte's step: of the sum with the byte in it. -/
def st (p s b : Nat) : Nat := it p 8 (s ^^^ b)
/-- The sum of bytes from s on. -/
def go (p : Nat) : Nat → List Nat → Nat
  | s, [] => s
  | s, x :: l => go p (st p s x) l

theorem xor_lt16 {a b : Nat} (ha : a < 65536) (hb : b < 65536) : a ^^^ b < 65536 := Nat.xor_lt_two_pow (n := 16) ha hb
theorem xor_div2 (a b : Nat) : (a ^^^ b) / 2 = a / 2 ^^^ b / 2 := by
  apply Nat.eq_of_testBit_eq; intro i
  simp [Nat.testBit_div_two, Nat.testBit_xor]
theorem xor_mod2 (a b : Nat) : (a ^^^ b) % 2 = (a + b) % 2 := by
  have h : (a ^^^ b).testBit 0 = (a.testBit 0 ^^ b.testBit 0) := Nat.testBit_xor ..
  simp only [Nat.testBit_zero] at h
  by_cases h1 : a % 2 = 1 <;> by_cases h2 : b % 2 = 1 <;> by_cases h3 : (a ^^^ b) % 2 = 1 <;> simp only [h1, h2, h3] at h <;> first | omega | (exfalso; revert h; decide)

theorem bs_lt {p x : Nat} (hp : p < 65536) (hx : x < 65536) : bs p x < 65536 := by
  unfold bs
  split
  · exact xor_lt16 (by omega) hp
  · omega
theorem it_lt {p : Nat} (hp : p < 65536) (n : Nat) : ∀ {x : Nat}, x < 65536 → it p n x < 65536 := by
  induction n with
  | zero => intro x hx; exact hx
  | succ n ih => intro x hx; exact ih (bs_lt hp hx)
theorem st_lt {p s b : Nat} (hp : p < 65536) (hs : s < 65536) (hb : b < 256) : st p s b < 65536 := it_lt hp 8 (xor_lt16 hs (by omega))
theorem go_lt {p : Nat} (hp : p < 65536) (l : List Nat) : ∀ {s : Nat}, s < 65536 → (∀ x ∈ l, x < 256) → go p s l < 65536 := by
  induction l with
  | nil => intro s hs _; exact hs
  | cons x l ih => intro s hs h; exact ih (st_lt hp hs (h x (by simp))) (fun y hy => h y (by simp [hy]))

theorem xor_swap (a b c d : Nat) : (a ^^^ b) ^^^ (c ^^^ d) = (a ^^^ c) ^^^ (b ^^^ d) := by
  apply Nat.eq_of_testBit_eq; intro i
  simp only [Nat.testBit_xor]
  cases a.testBit i <;> cases b.testBit i <;> cases c.testBit i <;> cases d.testBit i <;> rfl

theorem bs_xor (p x y : Nat) : bs p (x ^^^ y) = bs p x ^^^ bs p y := by
  unfold bs
  rw [xor_mod2, xor_div2]
  by_cases h1 : x % 2 = 1 <;> by_cases h2 : y % 2 = 1
  · rw [if_pos h1, if_pos h2, if_neg (by omega), xor_swap, Nat.xor_self, Nat.xor_zero]
  · rw [if_pos h1, if_neg h2, if_pos (by omega)]
    apply Nat.eq_of_testBit_eq; intro i
    simp only [Nat.testBit_xor]
    cases (x / 2).testBit i <;> cases (y / 2).testBit i <;> cases p.testBit i <;> rfl
  · rw [if_neg h1, if_pos h2, if_pos (by omega), Nat.xor_assoc]
  · rw [if_neg h1, if_neg h2, if_neg (by omega)]
theorem it_xor (p : Nat) (n : Nat) : ∀ x y : Nat, it p n (x ^^^ y) = it p n x ^^^ it p n y := by
  induction n with
  | zero => intro x y; rfl
  | succ n ih => intro x y; show it p n (bs p (x ^^^ y)) = _; rw [bs_xor, ih]; rfl
/-- Steps together. -/
theorem st_xor (p s t a b : Nat) : st p (s ^^^ t) (a ^^^ b) = st p s a ^^^ st p t b := by
  unfold st; rw [xor_swap, it_xor]
theorem it_zero (p n : Nat) : it p n 0 = 0 := by
  induction n with
  | zero => rfl
  | succ n ih => show it p n (bs p 0) = 0; rw [show bs p 0 = 0 from rfl]; exact ih

theorem it_hi (p h n : Nat) : ∀ x : Nat, x = h * 2 ^ n → it p n x = h := by
  induction n with
  | zero => intro x hx; rw [Nat.pow_zero, Nat.mul_one] at hx; exact hx
  | succ n ih =>
    intro x hx
    show it p n (bs p x) = h
    have e : x = 2 * (h * 2 ^ n) := by rw [hx, Nat.pow_succ]; rw [Nat.mul_comm 2, Nat.mul_assoc]
    apply ih
    unfold bs
    rw [if_neg (by omega)]; omega
theorem lohi (x : Nat) : x = (x % 256) ^^^ (x / 256 * 256) := by
  apply Nat.eq_of_testBit_eq; intro i
  have e1 : x % 256 = x % 2 ^ 8 := rfl
  have e2 : x / 256 * 256 = (x / 2 ^ 8) * 2 ^ 8 := rfl
  rw [Nat.testBit_xor, e1, e2, Nat.testBit_mod_two_pow, Nat.testBit_mul_two_pow, Nat.testBit_div_two_pow]
  by_cases h : i < 8
  · have : ¬ 8 ≤ i := by omega
    simp [h, this]
  · have : 8 ≤ i := by omega
    simp [h, this]
/-- A step by the table: the low byte's row, and the rest moved down. -/
theorem it_table (p x : Nat) : it p 8 x = it p 8 (x % 256) ^^^ (x / 256) := by
  have h1 := it_xor p 8 (x % 256) (x / 256 * 256)
  rw [← lohi x] at h1
  rw [h1, it_hi p (x / 256) 8 (x / 256 * 256) rfl]

/-- One to one: a polynomial whose highest bit is set. -/
theorem bs_inj {p : Nat} (hp : p < 65536) (hp2 : 32768 ≤ p) {x y : Nat} (hx : x < 65536) (hy : y < 65536) (h : bs p x = bs p y) : x = y := by
  have key : ∀ a b : Nat, a < 32768 → b < 32768 → ¬ (a ^^^ p = b) := by
    intro a b ha hb e
    have h1 : (a ^^^ p).testBit 15 = b.testBit 15 := by rw [e]
    rw [Nat.testBit_xor] at h1
    have t1 : a.testBit 15 = false := Nat.testBit_lt_two_pow (by omega)
    have t2 : b.testBit 15 = false := Nat.testBit_lt_two_pow (by omega)
    have t3 : p.testBit 15 = true := by
      rw [Nat.testBit_eq_decide_div_mod_eq]
      have : p / 2 ^ 15 = 1 := by omega
      simp [this]
    simp [t1, t2, t3] at h1
  unfold bs at h
  by_cases h1 : x % 2 = 1 <;> by_cases h2 : y % 2 = 1
  · rw [if_pos h1, if_pos h2] at h
    have e : x / 2 = y / 2 := by
      have := congrArg (· ^^^ p) h
      simpa [Nat.xor_assoc] using this
    omega
  · rw [if_pos h1, if_neg h2] at h
    exact absurd h (key _ _ (by omega) (by omega))
  · rw [if_neg h1, if_pos h2] at h
    exact absurd h.symm (key _ _ (by omega) (by omega))
  · rw [if_neg h1, if_neg h2] at h
    omega
theorem it_inj {p : Nat} (hp : p < 65536) (hp2 : 32768 ≤ p) (n : Nat) : ∀ {x y : Nat}, x < 65536 → y < 65536 → it p n x = it p n y → x = y := by
  induction n with
  | zero => intro x y _ _ h; exact h
  | succ n ih => intro x y hx hy h; exact bs_inj hp hp2 hx hy (ih (bs_lt hp hx) (bs_lt hp hy) h)
theorem xor_cancel {s a b : Nat} (h : s ^^^ a = s ^^^ b) : a = b := by
  have := congrArg (s ^^^ ·) h
  simpa [← Nat.xor_assoc] using this
theorem xor_cancel' {s a b : Nat} (h : a ^^^ s = b ^^^ s) : a = b := by
  have := congrArg (· ^^^ s) h
  simpa [Nat.xor_assoc] using this
/-- Unlike bytes behind one sum: unlike sums. -/
theorem st_inj_byte {p s a b : Nat} (hp : p < 65536) (hp2 : 32768 ≤ p) (hs : s < 65536) (ha : a < 256) (hb : b < 256) (h : st p s a = st p s b) : a = b :=
  xor_cancel (it_inj hp hp2 8 (xor_lt16 hs (by omega)) (xor_lt16 hs (by omega)) h)
theorem st_inj_sum {p s t a : Nat} (hp : p < 65536) (hp2 : 32768 ≤ p) (hs : s < 65536) (ht : t < 65536) (ha : a < 256) (h : st p s a = st p t a) : s = t :=
  xor_cancel' (it_inj hp hp2 8 (xor_lt16 hs (by omega)) (xor_lt16 ht (by omega)) h)
theorem go_inj {p : Nat} (hp : p < 65536) (hp2 : 32768 ≤ p) (l : List Nat) : ∀ {s t : Nat}, s < 65536 → t < 65536 → (∀ x ∈ l, x < 256) → go p s l = go p t l → s = t := by
  induction l with
  | nil => intro s t _ _ _ h; exact h
  | cons x l ih =>
    intro s t hs ht hl h
    have hx := hl x (by simp)
    exact st_inj_sum hp hp2 hs ht hx (ih (st_lt hp hs hx) (st_lt hp ht hx) (fun y hy => hl y (by simp [hy])) h)
theorem go_append (p : Nat) (l m : List Nat) : ∀ s : Nat, go p s (l ++ m) = go p (go p s l) m := by
  induction l with
  | nil => intro s; rfl
  | cons x l ih => intro s; exact ih _
/-- One byte turned: another sum. -/
theorem go_set_ne {p : Nat} (hp : p < 65536) (hp2 : 32768 ≤ p) (l : List Nat) : ∀ {s : Nat} (i v : Nat), s < 65536 → (∀ x ∈ l, x < 256) → (h : i < l.length) → v < 256 → v ≠ l[i] → go p s (l.set i v) ≠ go p s l := by
  induction l with
  | nil => intro s i v _ _ h; simp at h
  | cons x l ih =>
    intro s i v hs hl h hv hne
    have hx := hl x (by simp)
    have hl' : ∀ y ∈ l, y < 256 := fun y hy => hl y (by simp [hy])
    cases i with
    | zero =>
      intro e
      have e1 : go p (st p s v) l = go p (st p s x) l := e
      have e2 : st p s v = st p s x := go_inj hp hp2 l (st_lt hp hs hv) (st_lt hp hs hx) hl' e1
      have e3 : v = x := st_inj_byte hp hp2 hs hv hx e2
      exact hne e3
    | succ i =>
      have h' : i < l.length := by simpa using h
      have hne' : v ≠ l[i] := by simpa using hne
      exact ih i v (st_lt hp hs hx) hl' h' hv hne'
/-- Bytes and their sum behind them: 0. -/
theorem go_own {p m : Nat} (hm : m < 65536) : go p m [m % 256, m / 256] = 0 := by
  have h0 : m ^^^ m % 256 = m / 256 * 256 := by
    have h := lohi m
    have e : m ^^^ m % 256 = (m % 256 ^^^ (m / 256 * 256)) ^^^ m % 256 := by rw [← h]
    rw [e, Nat.xor_comm (m % 256), Nat.xor_assoc, Nat.xor_self, Nat.xor_zero]
  show st p (st p m (m % 256)) (m / 256) = 0
  have h1 : st p m (m % 256) = m / 256 := by unfold st; rw [h0]; exact it_hi p _ 8 _ rfl
  rw [h1]; unfold st; rw [Nat.xor_self, it_zero]
/-- Three texts together. -/
def zip3 : List Nat → List Nat → List Nat → List Nat
  | a :: l, b :: m, c :: n => (a ^^^ b ^^^ c) :: zip3 l m n
  | _, _, _ => []
theorem go_zip3 (p : Nat) (l : List Nat) : ∀ (m n : List Nat) (s t u : Nat), m.length = l.length → n.length = l.length → go p (s ^^^ t ^^^ u) (zip3 l m n) = go p s l ^^^ go p t m ^^^ go p u n := by
  induction l with
  | nil =>
    intro m n s t u hm hn
    obtain rfl : m = [] := List.eq_nil_of_length_eq_zero hm
    obtain rfl : n = [] := List.eq_nil_of_length_eq_zero hn
    rfl
  | cons a l ih =>
    intro m n s t u hm hn
    cases m with
    | nil => simp at hm
    | cons b m =>
      cases n with
      | nil => simp at hn
      | cons c n =>
        show go p (st p (s ^^^ t ^^^ u) (a ^^^ b ^^^ c)) (zip3 l m n) = _
        rw [st_xor, st_xor]
        exact ih m n _ _ _ (by simpa using hm) (by simpa using hn)

/-! Go's words for bits. -/
open Go
theorem wrap_i64_id (n : Int) (h0 : 0 ≤ n) (h1 : n < 2 ^ 63) : IntKind.i64.wrap n = n := by rw [IntKind.wrap_i64]; omega
theorem xor_nat (k : IntKind) (j : Nat) (hj : j ≤ k.bits) (hk : ∀ n : Int, 0 ≤ n → n < 2 ^ j → k.wrap n = n) (a b : Nat) (ha : a < 2 ^ j) (hb : b < 2 ^ j) :
    bits .xor k a b = ((a ^^^ b : Nat) : Int) := by
  have hp : 2 ^ j ≤ 2 ^ k.bits := Nat.pow_le_pow_right (by decide) hj
  have ha' : a % 2 ^ k.bits = a := Nat.mod_eq_of_lt (Nat.lt_of_lt_of_le ha hp)
  have hb' : b % 2 ^ k.bits = b := Nat.mod_eq_of_lt (Nat.lt_of_lt_of_le hb hp)
  simp only [bits, BitVec.ofInt_natCast, BitVec.toNat_xor, BitVec.toNat_ofNat, ha', hb']
  exact hk _ (Int.natCast_nonneg _) (by exact_mod_cast Nat.xor_lt_two_pow ha hb)
theorem xor64 {a b : Nat} (ha : a < 65536) (hb : b < 65536) : bits .xor .i64 (a : Int) (b : Int) = ((a ^^^ b : Nat) : Int) :=
  xor_nat .i64 63 (by decide) wrap_i64_id a b (by omega) (by omega)
theorem xor8 {a b : Nat} (ha : a < 256) (hb : b < 256) : bits .xor .u8 (a : Int) (b : Int) = ((a ^^^ b : Nat) : Int) :=
  xor_nat .u8 8 (by decide) wraps_u8 a b ha hb
theorem and1 (a : Nat) (ha : a < 65536) : bits .and .i64 (a : Int) 1 = ((a % 2 : Nat) : Int) := by
  have h := bits_mask .i64 63 (by decide) wrap_i64_id 1 (by decide) (a : Int) (by omega) (by omega)
  have e : (2 ^ 1 - 1 : Int) = 1 := by decide
  rw [e] at h; rw [h]; simp
theorem and255 (a : Nat) (ha : a < 65536) : bits .and .i64 (a : Int) 255 = ((a % 256 : Nat) : Int) := by
  have h := bits_mask .i64 63 (by decide) wrap_i64_id 8 (by decide) (a : Int) (by omega) (by omega)
  have e : (2 ^ 8 - 1 : Int) = 255 := by decide
  rw [e] at h; rw [h]; simp
/-- A whole number's low 16 bits. -/
def lo (a : Int) : Nat := (a % 65536).toNat
theorem lo_lt (a : Int) : lo a < 65536 := by unfold lo; omega
theorem lo_nat {a : Nat} (h : a < 65536) : lo (a : Int) = a := by unfold lo; omega
theorem and16 (a : Int) : bits .and .i64 a 65535 = (lo a : Int) := by
  have e : (65535 : Int) = ((65535 : Nat) : Int) := rfl
  have h : (BitVec.ofInt IntKind.i64.bits a &&& BitVec.ofInt IntKind.i64.bits 65535).toNat = lo a := by
    rw [BitVec.toNat_and, e, BitVec.ofInt_natCast, BitVec.toNat_ofNat]
    have : (65535 : Nat) % 2 ^ IntKind.i64.bits = 2 ^ 16 - 1 := by decide
    rw [this, Nat.and_two_pow_sub_one_eq_mod, BitVec.toNat_ofInt]
    unfold lo
    show (a % ((2 ^ 64 : Nat) : Int)).toNat % 2 ^ 16 = _
    omega
  show IntKind.i64.wrap _ = _
  rw [h]
  have := lo_lt a
  exact wrap_i64_id _ (by omega) (by omega)
theorem lo_xor (a b : Int) : lo (bits .xor .i64 a b) = lo a ^^^ lo b := by
  have e : ∀ n : Int, lo n = (BitVec.ofInt 64 n).toNat % 2 ^ 16 := by
    intro n
    rw [BitVec.toNat_ofInt]; unfold lo; omega
  have hw : ∀ n : Int, lo (IntKind.i64.wrap n) = lo n := by
    intro n; unfold lo; rw [IntKind.wrap_i64]; omega
  have h2 : lo (bits .xor .i64 a b) = lo (((BitVec.ofInt 64 a ^^^ BitVec.ofInt 64 b).toNat : Nat) : Int) := hw _
  rw [h2]
  have h3 : lo (((BitVec.ofInt 64 a ^^^ BitVec.ofInt 64 b).toNat : Nat) : Int) = (BitVec.ofInt 64 a ^^^ BitVec.ofInt 64 b).toNat % 2 ^ 16 := by unfold lo; omega
  rw [h3, BitVec.toNat_xor, Nat.xor_mod_two_pow, ← e, ← e]

/-- Bytes as natural numbers. -/
def ns (l : List Int) : List Nat := l.map Int.toNat
def Bytes (l : List Int) : Prop := ∀ x ∈ l, 0 ≤ x ∧ x < 256
theorem bytes_of_wf {l : List Int} (h : ∀ x ∈ l, (Lit.int .u8 x).wf = true) : Bytes l := by
  intro x hx
  have := h x hx
  simp [Lit.wf, IntKind.min, IntKind.max, IntKind.bits, IntKind.signed] at this
  omega
theorem ns_lt {l : List Int} (h : Bytes l) : ∀ x ∈ ns l, x < 256 := by
  intro x hx
  simp only [ns, List.mem_map] at hx
  obtain ⟨a, ha, rfl⟩ := hx
  have := h a ha
  omega
theorem ns_append (l m : List Int) : ns (l ++ m) = ns l ++ ns m := by simp [ns]
theorem bytes_append {l m : List Int} (h : Bytes l) (h' : Bytes m) : Bytes (l ++ m) := by
  intro x hx
  rcases List.mem_append.1 hx with hx | hx
  · exact h x hx
  · exact h' x hx
theorem bytes_one {a : Int} (h0 : 0 ≤ a) (h1 : a < 256) : Bytes [a] := by intro x hx; simp at hx; subst hx; exact ⟨h0, h1⟩
end CrcMath
