/- The functions of the check sums, each walked once: what it answers, and that nothing that was there turns. Conditions: bytes are bytes. -/
import Derived.Test.YtpbbpdehfdchlaaProg
import Derived.Test.YtpbbpdehfdchlaaCrcMath
import Derived.Test.YtpbbpdehfdchlaaWWords
import Derived.WalkKit
import Derived.WalkSpells
import Derived.Lib.Hide
import Derived.Lib.SlBytesConst
import Derived.Outline
import Derived.LoopTactic
namespace Go.Proofs.Ytpbbpdehfdchlaa
open Go.RowKit CrcMath Go.Proofs.YtpbbpdehfdchlaaW.PrintWords
set_option linter.unusedVariables false
theorem retI {k : IntKind} {a b : Int} (h : a = b) : Ending.returned (.int k a) = .returned (.int k b) := by rw [h]

theorem it_odd {q x n : Nat} (h : x % 2 = 1) : it q n (x / 2 ^^^ q) = it q (n + 1) x := by show _ = it q n (bs q x); unfold bs; rw [if_pos h]
theorem it_even {q x n : Nat} (h : ¬ x % 2 = 1) : it q n (x / 2) = it q (n + 1) x := by show _ = it q n (bs q x); unfold bs; rw [if_neg h]
/-- A step, on whole numbers. -/
def sti (p s b : Int) : Int := (st (lo p) (lo s) b.toNat : Nat)
theorem sti_range (p s b : Int) (h1 : b < 256) : 0 ≤ sti p s b ∧ sti p s b < 65536 := by
  have := st_lt (lo_lt p) (lo_lt s) (show b.toNat < 256 by omega); unfold sti; omega

set_option maxHeartbeats 400000 in
theorem step_any (p s b : Int) (w : World) (h0 : 0 ≤ b) (h1 : b < 256) :
    Calls Try.prog 19 #[.int .i64 p, .int .i64 s, .int .u8 b] w fun e w' => e = .returned (.int .i64 (sti p s b)) ∧ w = w' := by
  have hx : bits BinOp.xor IntKind.i64 (bits BinOp.and IntKind.i64 s 65535) b = ((lo s ^^^ b.toNat : Nat) : Int) := by
    obtain ⟨m, rfl⟩ := Int.eq_ofNat_of_zero_le h0
    rw [and16, xor64 (lo_lt s) (by omega)]; rfl
  have hp := and16 p
  have hlt : lo s ^^^ b.toNat < 65536 := xor_lt16 (lo_lt s) (by omega)
  have hq := lo_lt p
  obtain ⟨x0, hx0⟩ : ∃ x0, lo s ^^^ b.toNat = x0 := ⟨_, rfl⟩
  obtain ⟨q, hq0⟩ : ∃ q, lo p = q := ⟨_, rfl⟩
  have HR : Hid (sti p s b = it q 8 x0) := Lib.hid (by unfold sti st; rw [hx0, hq0])
  rw [hx0] at hx hlt
  rw [hq0] at hp hq
  clear hx0 hq0
  go_enter Try.func19, Try.ntmps19
  go_wp2
  clear hx hp
  go_loop [1, 15] (fun t i => ∃ n x : Nat, n ≤ 8 ∧ x < 65536 ∧ i = .int .i64 (8 - n : Int) ∧ t = .int .i64 (x : Int) ∧ Hid (it q n x = it q 8 x0)) (fun _ i => (8 - intOf i).toNat)
  case atStart => exact ⟨8, x0, by omega, hlt, rfl, rfl, Lib.hid rfl⟩
  case round =>
    obtain ⟨n, x, hn, hxl, rfl, rfl, HI⟩ := hrel
    cases n with
    | zero =>
      go_wp2
      go_ret
      exact ⟨retI (by rw [HR.out, ← HI.out]; rfl), rfl⟩
    | succ n =>
      have ha := and1 x hxl
      have hb : bits .xor .i64 ((x : Int) / 2) (q : Int) = ((x / 2 ^^^ q : Nat) : Int) := xor64 (show x / 2 < 65536 by omega) hq
      by_cases hodd : x % 2 = 1
      · have HO := Lib.hid (it_odd (q := q) (n := n) hodd)
        have hl := xor_lt16 (show x / 2 < 65536 by omega) hq
        go_wp2
        go_round
        case rel => exact ⟨n, x / 2 ^^^ q, by omega, hl, by go_num, rfl, Lib.hid (HO.out.trans HI.out)⟩
        case measure => simp [intOf]; omega
      · have HO := Lib.hid (it_even (q := q) (n := n) hodd)
        go_wp2
        go_round
        case rel => exact ⟨n, x / 2, by omega, by omega, by go_num, rfl, Lib.hid (HO.out.trans HI.out)⟩
        case measure => simp [intOf]; omega

set_option maxHeartbeats 400000 in
theorem refStep_any (p s b : Int) (w : World) (h0 : 0 ≤ b) (h1 : b < 256) :
    Calls Try.prog 20 #[.int .i64 p, .int .i64 s, .int .u8 b] w fun e w' => e = .returned (.int .i64 (sti p s b)) ∧ w = w' := by
  have hx : bits BinOp.xor IntKind.i64 (bits BinOp.and IntKind.i64 s 65535) b = ((lo s ^^^ b.toNat : Nat) : Int) := by
    obtain ⟨m, rfl⟩ := Int.eq_ofNat_of_zero_le h0
    rw [and16, xor64 (lo_lt s) (by omega)]; rfl
  have hp := and16 p
  have hlt : lo s ^^^ b.toNat < 65536 := xor_lt16 (lo_lt s) (by omega)
  have hq := lo_lt p
  obtain ⟨x0, hx0⟩ : ∃ x0, lo s ^^^ b.toNat = x0 := ⟨_, rfl⟩
  obtain ⟨q, hq0⟩ : ∃ q, lo p = q := ⟨_, rfl⟩
  have HR : Hid (sti p s b = it q 8 x0) := Lib.hid (by unfold sti st; rw [hx0, hq0])
  rw [hx0] at hx hlt
  rw [hq0] at hp hq
  clear hx0 hq0
  go_enter Try.func20, Try.ntmps20
  go_wp2
  clear hx hp
  go_loop [8, 9] (fun t i => ∃ n x : Nat, n ≤ 8 ∧ x < 65536 ∧ i = .int .i64 (8 - n : Int) ∧ t = .int .i64 (x : Int) ∧ Hid (it q n x = it q 8 x0)) (fun _ i => (8 - intOf i).toNat)
  case atStart => exact ⟨8, x0, by omega, hlt, rfl, rfl, Lib.hid rfl⟩
  case round =>
    obtain ⟨n, x, hn, hxl, rfl, rfl, HI⟩ := hrel
    cases n with
    | zero =>
      go_wp2
      go_ret
      exact ⟨retI (by rw [HR.out, ← HI.out]; rfl), rfl⟩
    | succ n =>
      have ha := and1 x hxl
      have hb : bits .xor .i64 ((x : Int) / 2) (q : Int) = ((x / 2 ^^^ q : Nat) : Int) := xor64 (show x / 2 < 65536 by omega) hq
      by_cases hodd : x % 2 = 1
      · have HO := Lib.hid (it_odd (q := q) (n := n) hodd)
        have hl := xor_lt16 (show x / 2 < 65536 by omega) hq
        go_wp2
        go_round
        case rel => exact ⟨n, x / 2 ^^^ q, by omega, hl, by go_num, rfl, Lib.hid (HO.out.trans HI.out)⟩
        case measure => simp [intOf]; omega
      · have HO := Lib.hid (it_even (q := q) (n := n) hodd)
        go_wp2
        go_round
        case rel => exact ⟨n, x / 2, by omega, by omega, by go_num, rfl, Lib.hid (HO.out.trans HI.out)⟩
        case measure => simp [intOf]; omega

/-- A sum of bytes from s on. -/
def goi (p s : Int) : List Int → Int
  | [] => s
  | x :: l => goi p (sti p s x) l
theorem goi_snoc (p : Int) (l : List Int) (x : Int) : ∀ s, goi p s (l ++ [x]) = sti p (goi p s l) x := by
  induction l with
  | nil => intro s; rfl
  | cons y l ih => intro s; exact ih _
theorem goi_nat (p : Int) (l : List Int) (h : Bytes l) : ∀ s : Int, 0 ≤ s → s < 65536 → goi p s l = (go (lo p) s.toNat (ns l) : Nat) := by
  induction l with
  | nil => intro s h0 h1; show s = ((s.toNat : Nat) : Int); omega
  | cons x l ih =>
    intro s h0 h1
    have hx := h x (by simp)
    have hr := sti_range p s x (by omega)
    have := ih (fun y hy => h y (by simp [hy])) (sti p s x) hr.1 hr.2
    show goi p (sti p s x) l = _
    rw [this]
    have e : (sti p s x).toNat = st (lo p) s.toNat x.toNat := by
      unfold sti
      have : lo s = s.toNat := by unfold lo; omega
      rw [this]; omega
    rw [e]; rfl
theorem take_next {α : Type} (l : List α) (k : Nat) (h : k < l.length) (d : α) : l.take (k + 1) = l.take k ++ [l.getD k d] := by
  rw [List.take_succ_eq_append_getElem h]; simp [List.getD_eq_getElem?_getD, List.getElem?_eq_getElem h]
theorem getD_mem {α : Type} (l : List α) (k : Nat) (h : k < l.length) (d : α) : l.getD k d ∈ l := by
  simp [List.getD_eq_getElem?_getD, List.getElem?_eq_getElem h]

set_option maxHeartbeats 400000 in
theorem modbus_any (A : Option Addr) (n c : Nat) (l : List Int) (w : World) (HR : ReadsInt w .u8 A n l) (hb : Bytes l) :
    Calls Try.prog 13 #[.slice A n c] w fun e w' => e = .returned (.int .i64 (goi 40961 65535 l)) ∧ w = w' := by
  have hm := HR.2.1
  have hl : l.length = n := HR.1
  go_enter Try.func13, Try.ntmps13
  go_wp2
  have HL := Lib.hid hl
  clear hl
  go_loop [3, 8] (fun t i => ∃ k : Nat, k ≤ n ∧ i = .int .i64 k ∧ t = .int .i64 (goi 40961 65535 (l.take k))) (fun _ i => n - (intOf i).toNat)
  case atStart => exact ⟨0, Nat.zero_le _, rfl, rfl⟩
  case round =>
    obtain ⟨k, hk, rfl, rfl⟩ := hrel
    by_cases hlt : k < n
    · obtain ⟨ad, rfl, hc⟩ := HR.at_ k (by omega) (by omega)
      have hc' : w.cell? (ad.add k) = some (.int .u8 (l.getD k 0)) := hc
      have hbd := hb (l.getD k 0) (getD_mem l k (by rw [HL.out]; exact hlt) 0)
      obtain ⟨x, hx⟩ : ∃ x, l.getD k 0 = x := ⟨_, rfl⟩
      have HT := Lib.hid (show goi 40961 65535 (l.take (k + 1)) = sti 40961 (goi 40961 65535 (l.take k)) x by rw [take_next l k (by rw [HL.out]; exact hlt) 0, goi_snoc, hx])
      rw [hx] at hc' hbd
      clear hc hx
      obtain ⟨hb0, hb1⟩ := hbd
      obtain ⟨g, hg⟩ : ∃ g, goi 40961 65535 (l.take k) = g := ⟨_, rfl⟩
      rw [hg] at HT ⊢
      clear hg
      go_wp2_with (go_at_call 19; refine (step_any _ _ _ _ hb0 hb1).mono ?_; rintro e w' ⟨rfl, rfl⟩)
      go_round
      case rel => exact ⟨k + 1, by omega, by go_num, by rw [HT.out]⟩
      case measure => simp [intOf]; omega
    · go_wp2
      go_ret
      exact ⟨retI (by rw [List.take_of_length_le (by rw [HL.out]; omega)]), rfl⟩
set_option maxHeartbeats 400000 in
theorem dnp_any (A : Option Addr) (n c : Nat) (l : List Int) (w : World) (HR : ReadsInt w .u8 A n l) (hb : Bytes l) :
    Calls Try.prog 15 #[.slice A n c] w fun e w' => e = .returned (.int .i64 (bits .xor .i64 (goi 42684 0 l) 65535)) ∧ w = w' := by
  have hm := HR.2.1
  have hl : l.length = n := HR.1
  go_enter Try.func15, Try.ntmps15
  go_wp2
  have HL := Lib.hid hl
  clear hl
  go_loop [3, 8] (fun t i => ∃ k : Nat, k ≤ n ∧ i = .int .i64 k ∧ t = .int .i64 (goi 42684 0 (l.take k))) (fun _ i => n - (intOf i).toNat)
  case atStart => exact ⟨0, Nat.zero_le _, rfl, rfl⟩
  case round =>
    obtain ⟨k, hk, rfl, rfl⟩ := hrel
    by_cases hlt : k < n
    · obtain ⟨ad, rfl, hc⟩ := HR.at_ k (by omega) (by omega)
      have hc' : w.cell? (ad.add k) = some (.int .u8 (l.getD k 0)) := hc
      have hbd := hb (l.getD k 0) (getD_mem l k (by rw [HL.out]; exact hlt) 0)
      obtain ⟨x, hx⟩ : ∃ x, l.getD k 0 = x := ⟨_, rfl⟩
      have HT := Lib.hid (show goi 42684 0 (l.take (k + 1)) = sti 42684 (goi 42684 0 (l.take k)) x by rw [take_next l k (by rw [HL.out]; exact hlt) 0, goi_snoc, hx])
      rw [hx] at hc' hbd
      clear hc hx
      obtain ⟨hb0, hb1⟩ := hbd
      obtain ⟨g, hg⟩ : ∃ g, goi 42684 0 (l.take k) = g := ⟨_, rfl⟩
      rw [hg] at HT ⊢
      clear hg
      go_wp2_with (go_at_call 19; refine (step_any _ _ _ _ hb0 hb1).mono ?_; rintro e w' ⟨rfl, rfl⟩)
      go_round
      case rel => exact ⟨k + 1, by omega, by go_num, by rw [HT.out]⟩
      case measure => simp [intOf]; omega
    · go_wp2
      go_ret
      exact ⟨retI (by rw [List.take_of_length_le (by rw [HL.out]; omega)]), rfl⟩

set_option maxHeartbeats 400000 in
theorem refSum_any (p s : Int) (A : Option Addr) (n c : Nat) (l : List Int) (w : World) (HR : ReadsInt w .u8 A n l) (hb : Bytes l) :
    Calls Try.prog 21 #[.int .i64 p, .int .i64 s, .slice A n c] w fun e w' => e = .returned (.int .i64 (goi p s l)) ∧ w = w' := by
  have hm := HR.2.1
  have hl : l.length = n := HR.1
  go_enter Try.func21, Try.ntmps21
  go_wp2
  have HL := Lib.hid hl
  clear hl
  go_loop [1, 7] (fun t i => ∃ k : Nat, k ≤ n ∧ i = .int .i64 k ∧ t = .int .i64 (goi p s (l.take k))) (fun _ i => n - (intOf i).toNat)
  case atStart => exact ⟨0, Nat.zero_le _, rfl, rfl⟩
  case round =>
    obtain ⟨k, hk, rfl, rfl⟩ := hrel
    by_cases hlt : k < n
    · obtain ⟨ad, rfl, hc⟩ := HR.at_ k (by omega) (by omega)
      have hc' : w.cell? (ad.add k) = some (.int .u8 (l.getD k 0)) := hc
      have hbd := hb (l.getD k 0) (getD_mem l k (by rw [HL.out]; exact hlt) 0)
      obtain ⟨x, hx⟩ : ∃ x, l.getD k 0 = x := ⟨_, rfl⟩
      have HT := Lib.hid (show goi p s (l.take (k + 1)) = sti p (goi p s (l.take k)) x by rw [take_next l k (by rw [HL.out]; exact hlt) 0, goi_snoc, hx])
      rw [hx] at hc' hbd
      clear hc hx
      obtain ⟨hb0, hb1⟩ := hbd
      obtain ⟨g, hg⟩ : ∃ g, goi p s (l.take k) = g := ⟨_, rfl⟩
      rw [hg] at HT ⊢
      clear hg
      go_wp2_with (go_at_call 20; refine (refStep_any _ _ _ _ hb0 hb1).mono ?_; rintro e w' ⟨rfl, rfl⟩)
      go_round
      case rel => exact ⟨k + 1, by omega, by go_num, by rw [HT.out]⟩
      case measure => simp [intOf]; omega
    · go_wp2
      go_ret
      exact ⟨retI (by rw [List.take_of_length_le (by rw [HL.out]; omega)]), rfl⟩

theorem refModbus_any (A : Option Addr) (n c : Nat) (l : List Int) (w : World) (HR : ReadsInt w .u8 A n l) (hb : Bytes l) :
    Calls Try.prog 14 #[.slice A n c] w fun e w' => e = .returned (.int .i64 (goi 40961 65535 l)) ∧ w = w' := by
  go_enter Try.func14, Try.ntmps14
  go_wp2_with (go_at_call 21; refine (refSum_any _ _ A n c l _ HR hb).mono ?_; rintro e w' ⟨rfl, rfl⟩)
  go_ret
  exact ⟨rfl, rfl⟩
theorem refDnp_any (A : Option Addr) (n c : Nat) (l : List Int) (w : World) (HR : ReadsInt w .u8 A n l) (hb : Bytes l) :
    Calls Try.prog 16 #[.slice A n c] w fun e w' => e = .returned (.int .i64 (bits .xor .i64 (goi 42684 0 l) 65535)) ∧ w = w' := by
  go_enter Try.func16, Try.ntmps16
  go_wp2_with (go_at_call 21; refine (refSum_any _ _ A n c l _ HR hb).mono ?_; rintro e w' ⟨rfl, rfl⟩)
  go_ret
  exact ⟨rfl, rfl⟩

/-- The table's first k rows. -/
def tab (p : Int) (k : Nat) : List Int := (List.range k).map fun (i : Nat) => sti p 0 i
theorem tab_length (p : Int) (k : Nat) : (tab p k).length = k := by simp [tab]
theorem tab_succ (p : Int) (k : Nat) : tab p (k + 1) = tab p k ++ [sti p 0 k] := by simp [tab, List.range_succ]
theorem info_int : (Try.prog.info? 3).map (fun i => (i.zero, i.size, i.bytes)) = some (some (.int .i64 0), 1, 8) := by kernel_rfl
theorem info_u8 : (Try.prog.info? 5).map (fun i => (i.zero, i.size, i.bytes)) = some (some (.int .u8 0), 1, 1) := by kernel_rfl

def TabPost (p : Int) (w : World) (e : Ending) (w' : World) : Prop := ∃ v, e = .returned v ∧ w'.ownsRow w.heap.size 3 1 v 256 (nums .i64 (tab p 256)) ∧ Below w.heap.size w w'
set_option maxHeartbeats 1000000 in
set_option maxRecDepth 100000 in
theorem table_any (p : Int) (w : World) :
    Calls Try.prog 18 #[.int .i64 p] w (TabPost p w) := by
  go_enter Try.func18, Try.ntmps18
  go_wp2
  go_loopw [3, 5] (fun v i wr => ∃ k : Nat, k ≤ 256 ∧ i = .int .i64 k ∧ Aside0 (wr.ownsRow w.heap.size 3 1 v k (nums .i64 (tab p k))) ∧ Aside0 (Below w.heap.size w wr)) (fun _ i _ => (256 - intOf i).toNat)
  case atStart => exact ⟨0, Nat.zero_le _, rfl, ⟨own_nil _ _ _ _⟩, ⟨Below.refl _ _⟩⟩
  case round =>
    obtain ⟨k, hk, rfl, HO, HB⟩ := hrel
    by_cases hlt : k < 256
    · have HO1 := Aside0.mk (show wr.ownsRow w.heap.size 3 1 u3 (tab p k).length (nums .i64 (tab p k)) by rw [tab_length]; exact HO.out)
      have HS := Aside0.mk (tab_succ p k)
      have HLn := Aside0.mk (tab_length p k)
      go_wp2_with (first | (go_at_call 19; refine (step_any _ _ _ _ (by omega) (by omega)).mono ?_; rintro e w' ⟨rfl, rfl⟩) | (at_builtin; refine print_append_num (w0 := w) w.heap.size rfl (.tmp 8) (.tmp 13) 28 3 .i64 8 rfl Try.underlying28 info_int (by omega) u3 (tab p k) _ rfl rfl HO1.out HB.out HB.out.size (by rw [HLn.out]; omega) ?_; intro v1 w1 ho hb hg hat; have HO2 := Aside0.mk ho; have HB2 := Aside0.mk hb; clear ho hb hg hat))
      go_roundw
      case rel => exact ⟨k + 1, by omega, by go_num, ⟨by have := HO2.out; rw [← HS.out, tab_length] at this; exact this⟩, HB2⟩
      case measure => simp [intOf]; omega
    · go_wp2
      go_ret
      obtain rfl : k = 256 := by omega
      exact ⟨_, rfl, HO.out, HB.out⟩

/-- A new slice of bytes: what it holds; nothing that was there turns. -/
def MadeBytes (l : List Int) (w : World) (e : Ending) (w' : World) : Prop := ∃ v, e = .returned v ∧ w'.ownsRow w.heap.size 5 1 v l.length (nums .u8 l) ∧ Below w.heap.size w w'
set_option maxHeartbeats 1000000 in
set_option maxRecDepth 100000 in
theorem copyBytes_any (A : Option Addr) (n c : Nat) (l : List Int) (w : World) (HR : ReadsInt w .u8 A n l) (hsz : n ≤ 140737488355328) :
    Calls Try.prog 12 #[.slice A n c] w (MadeBytes l w) := by
  have HL := Lib.hid HR.1
  have HB := Aside0.mk (below_alloc (Below.refl w.heap.size w) (.cells #[] 5))
  have HO := Aside0.mk (own_lit w w.heap.size 5 .u8 [] (Nat.le_refl _) (by decide))
  have HRa := Aside0.mk (HR.below (below_alloc (Below.refl w.heap.size w) (.cells #[] 5)))
  go_enter Try.func12, Try.ntmps12
  go_wp2_with (at_builtin; refine print_append_row (w0 := w) w.heap.size rfl (.tmp 3) (.tmp 4) 22 5 .u8 1 rfl Try.underlying22 info_u8 (by omega) _ [] l A n c rfl rfl HO.out HRa.out HB.out HB.out.size (by simpa using hsz) ?_; intro v1 w1 ho hb hg hat; have HO2 := Aside0.mk ho; have HB2 := Aside0.mk hb; clear ho hb hg hat)
  go_ret
  exact ⟨_, rfl, HO2.out, HB2.out⟩

def BoolPost (b : Bool) (w : World) (e : Ending) (w' : World) : Prop := e = .returned (.bool b) ∧ w = w'
theorem u8_toNat_inj {x y : Int} (hx : 0 ≤ x ∧ x < 256) (hy : 0 ≤ y ∧ y < 256) (h : UInt8.ofNat x.toNat = UInt8.ofNat y.toNat) : x = y := by
  have := congrArg UInt8.toNat h
  simp only [UInt8.toNat_ofNat'] at this
  omega
theorem map_u8_inj (l : List Int) : ∀ m : List Int, Bytes l → Bytes m → (l.map fun x => UInt8.ofNat x.toNat) = (m.map fun x => UInt8.ofNat x.toNat) → l = m := by
  induction l with
  | nil => intro m _ _ h; cases m with
    | nil => rfl
    | cons b m => simp at h
  | cons a l ih =>
    intro m hl hm h
    cases m with
    | nil => simp at h
    | cons b m =>
      simp only [List.map_cons, List.cons.injEq] at h
      rw [u8_toNat_inj (hl a (by simp)) (hm b (by simp)) h.1, ih m (fun x hx => hl x (by simp [hx])) (fun x hx => hm x (by simp [hx])) h.2]
theorem toList_data (s : ByteArray) : s.toList = s.data.toList := by
  have loop : ∀ (n i : Nat) (r : List UInt8), s.size - i = n → ByteArray.toList.loop s i r = r.reverse ++ s.data.toList.drop i := by
    intro n
    induction n with
    | zero =>
      intro i r h
      unfold ByteArray.toList.loop
      rw [if_neg (by omega), List.drop_eq_nil_of_le (by show s.data.toList.length ≤ i; simp; have : s.data.size = s.size := rfl; omega)]
      simp
    | succ n ih =>
      intro i r h
      unfold ByteArray.toList.loop
      have hi : i < s.size := by omega
      rw [if_pos hi, ih (i + 1) _ (by omega)]
      have hi' : i < s.data.toList.length := by simp; exact hi
      rw [List.drop_eq_getElem_cons hi']
      simp [ByteArray.get!, getElem!_pos s.data i hi]
  have := loop (s.size - 0) 0 [] rfl
  simpa [ByteArray.toList] using this
theorem strOfNums_eq {l m : List Int} (hl : Bytes l) (hm : Bytes m) : ((strOfNums l).toList == (strOfNums m).toList) = decide (l = m) := by
  rw [toList_data, toList_data, strOfNums_data, strOfNums_data]
  by_cases h : l = m
  · subst h; simp
  · have : ¬ (l.map fun x => UInt8.ofNat x.toNat) = (m.map fun x => UInt8.ofNat x.toNat) := fun e => h (map_u8_inj l m hl hm e)
    rw [beq_eq_false_iff_ne.2 this, decide_eq_false h]
set_option maxRecDepth 100000 in
theorem bytes_any (A B : Option Addr) (n m c d : Nat) (l k : List Int) (w : World) (HR : ReadsInt w .u8 A n l) (HS : ReadsInt w .u8 B m k) (hl : Bytes l) (hk : Bytes k) :
    Calls Try.prog 17 #[.slice A n c, .slice B m d] w (BoolPost (decide (l = k)) w) := by
  have h1 := string_of_reads (P := Try.prog) (c := c) Try.underlying22 Try.underlying5 Try.underlying9 HR
  have h2 := string_of_reads (P := Try.prog) (c := d) Try.underlying22 Try.underlying5 Try.underlying9 HS
  have HE := Aside0.mk (strOfNums_eq hl hk)
  clear hl hk HR HS
  go_enter Try.func17, Try.ntmps17
  go_wp2
  go_ret
  exact ⟨by rw [HE.out]; rfl, rfl⟩

theorem val1 : goi 40961 65535 [49, 50, 51, 52, 53, 54, 55, 56, 57] = 19255 := by decide +kernel
theorem val2 : bits .xor .i64 (goi 42684 0 [49, 50, 51, 52, 53, 54, 55, 56, 57]) 65535 = 60034 := by decide +kernel
theorem val3 : bits .xor .i64 (goi 42684 0 []) 65535 = 65535 := by decide +kernel
theorem reads_nil (w : World) (k : IntKind) (A : Option Addr) : ReadsInt w k A 0 [] := ⟨rfl, by omega, fun h => absurd h (by omega)⟩
theorem reads_block {w : World} {g n : Nat} {k : IntKind} {l : List Int} {t : TypeId} {fr : Nat × Nat} {cs : Array Value} (h : w.heap[g]? = some (.cells cs t fr)) (hc : cs = (nums k l).toArray) (hn : l.length = n) (hm : n ≤ 9223372036854775807) : ReadsInt w k (some ⟨g, 0, none⟩) n l := by
  subst hc
  refine ⟨hn, hm, fun _ => ⟨_, rfl, fun j hj => ?_⟩⟩
  rw [add_plain, cell_of_row w g j _ t fr h]
  simp [nums, List.getElem?_eq_getElem (show j < l.length by omega), List.getD_eq_getElem?_getD]

set_option maxHeartbeats 1000000 in
set_option maxRecDepth 100000 in
theorem first_any (w : World) : Calls Try.prog 11 #[] w fun e w' => e = .returned (.bool true) ∧ Below w.heap.size w w' := by
  have kc := fun (w : World) (C : Array Value) (n c : Nat) => Lib.run_convert_bytes_const (P := Try.prog) w 22 5 C n c Try.underlying22 Try.underlying5
  have hb : Bytes [49, 50, 51, 52, 53, 54, 55, 56, 57] := by intro x hx; simp at hx; omega
  have hb0 : Bytes [] := by intro x hx; simp at hx
  have HR := fun (W : World) => Aside0.mk (reads_block (k := .u8) (n := 9) (l := [49, 50, 51, 52, 53, 54, 55, 56, 57]) (heap_alloc_new W (.cells #[.int .u8 49, .int .u8 50, .int .u8 51, .int .u8 52, .int .u8 53, .int .u8 54, .int .u8 55, .int .u8 56, .int .u8 57] 5 (9, 10))) rfl rfl (by omega))
  have H1 := Aside0.mk val1
  have H2 := Aside0.mk val2
  have H3 := Aside0.mk val3
  go_enter Try.func11, Try.ntmps11
  go_wp2_with fail
  refine (modbus_any _ _ _ _ _ (HR _).out hb).mono ?_
  rw [H1.out]
  rintro e w' ⟨rfl, rfl⟩
  go_wp2_with fail
  refine (dnp_any _ _ _ _ _ (HR _).out hb).mono ?_
  rw [H2.out]
  rintro e w' ⟨rfl, rfl⟩
  go_wp2_with fail
  refine (modbus_any _ _ _ _ _ (reads_nil _ _ _) hb0).mono ?_
  rintro e w' ⟨rfl, rfl⟩
  go_wp2_with fail
  refine (dnp_any _ _ _ _ _ (reads_nil _ _ _) hb0).mono ?_
  rw [H3.out]
  rintro e w' ⟨rfl, rfl⟩
  go_wp2_with fail
  refine (table_any _ _).mono ?_
  rintro e w1 ⟨v, rfl, ho, hb1⟩
  obtain ⟨A, c, rfl⟩ := own_slice ho
  have HB := Aside0.mk hb1
  clear hb1 ho
  go_wp2
  go_ret
  exact ⟨rfl, ((below_alloc (Below.refl _ _) _).trans (HB.out.mono (by simp)))⟩

end Go.Proofs.Ytpbbpdehfdchlaa
