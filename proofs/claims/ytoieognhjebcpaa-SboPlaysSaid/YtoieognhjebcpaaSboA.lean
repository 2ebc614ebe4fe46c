/- Select before operate: the program's functions and the reference's, each walked once. Conditions: bytes are bytes. -/
import Derived.Test.YtoieognhjebcpaaProg
import Derived.Test.YtoieognhjebcpaaSboMath
import Derived.Test.YtoieognhjebcpaaWWords
import Derived.WalkKit
import Derived.WalkSpells
import Derived.WalkLawsBesides
import Derived.Lib.Hide
import Derived.Lib.SlBytesConst
import Derived.Outline
import Derived.LoopTactic
import Derived.Deep.QuietTactic
import Derived.BigQuiet
import Derived.Laws.Rows
import Derived.Deep.WholeRow
namespace Go.Proofs.Ytoieognhjebcpaa
open Go.RowKit SboMath Go.Proofs.YtoieognhjebcpaaW.PrintWords
set_option linter.unusedVariables false

def Bytes (l : List Int) : Prop := ∀ x ∈ l, 0 ≤ x ∧ x < 256
/-- Nothing that was there turns but block g. -/
structure Chg (g : Nat) (w w' : World) : Prop where
  os : w'.os = w.os
  tape : w'.tape = w.tape
  output : w'.output = w.output
  size : w.heap.size ≤ w'.heap.size
  block : ∀ k, k < w.heap.size → k ≠ g → w'.heap[k]? = w.heap[k]?
theorem Chg.refl (g : Nat) (w : World) : Chg g w w := ⟨rfl, rfl, rfl, Nat.le_refl _, fun _ _ _ => rfl⟩
theorem Chg.trans {g : Nat} {a b c : World} (h : Chg g a b) (k : Chg g b c) : Chg g a c :=
  ⟨k.os.trans h.os, k.tape.trans h.tape, k.output.trans h.output, Nat.le_trans h.size k.size, fun i hi hg => (k.block i (Nat.lt_of_lt_of_le hi h.size) hg).trans (h.block i hi hg)⟩
theorem Chg.of_below {g : Nat} {w w' : World} (h : Below w.heap.size w w') : Chg g w w' := ⟨h.os, h.tape, h.output, h.size, fun k hk _ => h.block k hk⟩
theorem Chg.set {g : Nat} {a w : World} (h : Chg g a w) (i : Nat) (u : Value) : Chg g a (w.setCell ⟨g, i, none⟩ u) :=
  h.trans ⟨rfl, rfl, rfl, by simp [World.setCell], fun k hk hne => Below.heap_setCell _ _ _ _ hne⟩
theorem Chg.below {g B : Nat} {w w' : World} (h : Chg g w w') (hg : B ≤ g) (hB : B ≤ w.heap.size) : Below B w w' :=
  ⟨h.os, h.tape, h.output, h.size, fun k hk => h.block k (by omega) (by omega)⟩
theorem Chg.drewN {g : Nat} {a w : World} (h : Chg g a w) (m : Nat) : Chg g a (w.drewN m) := h.trans (Chg.of_below (pw_below_drewN (Below.refl _ _) m))
theorem below_two {w w1 w2 : World} (h : Below w.heap.size w w1) (k : Below w1.heap.size w1 w2) : Below w.heap.size w w2 := h.trans (k.mono h.size)
theorem below_chg {w w1 w2 : World} {g : Nat} (h : Below w.heap.size w w1) (k : Chg g w1 w2) (hg : w.heap.size ≤ g) : Below w.heap.size w w2 := h.trans (k.below hg h.size)

theorem info_u8 : (Try.prog.info? 5).map (fun i => (i.zero, i.size, i.bytes)) = some (some (.int .u8 0), 1, 1) := by kernel_rfl
def MadeBytes (l : List Int) (w : World) (e : Ending) (w' : World) : Prop := ∃ v, e = .returned v ∧ w'.ownsRow w.heap.size 5 1 v l.length (nums .u8 l) ∧ Below w.heap.size w w'
set_option maxHeartbeats 1000000 in
set_option maxRecDepth 100000 in
theorem copyBytes_any (A : Option Addr) (n c : Nat) (l : List Int) (w : World) (HR : ReadsInt w .u8 A n l) (hsz : n ≤ 140737488355328) :
    Calls Try.prog 16 #[.slice A n c] w (MadeBytes l w) := by
  have HL := Lib.hid HR.1
  have HB := Aside0.mk (below_alloc (Below.refl w.heap.size w) (.cells #[] 5))
  have HO := Aside0.mk (own_lit w w.heap.size 5 .u8 [] (Nat.le_refl _) (by decide))
  have HRa := Aside0.mk (HR.below (below_alloc (Below.refl w.heap.size w) (.cells #[] 5)))
  go_enter Try.func16, Try.ntmps16
  go_wp2_with (at_builtin; refine print_append_row (w0 := w) w.heap.size rfl (.tmp 3) (.tmp 4) 22 5 .u8 1 rfl Try.underlying22 info_u8 (by omega) _ [] l A n c rfl rfl HO.out HRa.out HB.out HB.out.size (by simpa using hsz) ?_; intro v1 w1 ho hb hg hat; have HO2 := Aside0.mk ho; have HB2 := Aside0.mk hb; clear ho hb hg hat)
  go_ret
  exact ⟨_, rfl, HO2.out, HB2.out⟩

set_option maxHeartbeats 1000000 in
set_option maxRecDepth 100000 in
theorem clone_any (A : Option Addr) (n c : Nat) (l : List Int) (w : World) (HR : ReadsInt w .u8 A n l) (hsz : n ≤ 140737488355328) :
    Calls Try.prog 22 #[.slice A n c] w (MadeBytes l w) := by
  have HL := Lib.hid HR.1
  have HB := Aside0.mk (below_alloc (Below.refl w.heap.size w) (.cells #[] 5))
  have HO := Aside0.mk (own_lit w w.heap.size 5 .u8 [] (Nat.le_refl _) (by decide))
  have HRa := Aside0.mk (HR.below (below_alloc (Below.refl w.heap.size w) (.cells #[] 5)))
  rcases A with _ | a
  · have hl : l = [] := by
      have h0 : n = 0 := by
        rcases Nat.eq_zero_or_pos n with h | h
        · exact h
        · obtain ⟨_, h, _⟩ := HR.2.2 h; cases h
      exact List.eq_nil_of_length_eq_zero (HR.1.trans h0)
    have HE := Aside0.mk hl
    have hk := fun (W : World) => Lib.run_eql_slice_nil (P := Try.prog) W 22 5 none n c 0 0 Try.underlying22
    clear HR hl
    go_enter Try.func22, Try.ntmps22
    go_wp2
    go_ret
    exact ⟨_, rfl, by rw [HE.out]; exact own_nil _ _ _ _, Below.refl _ _⟩
  · have hk := fun (W : World) => Lib.run_eql_slice_nil (P := Try.prog) W 22 5 (some a) n c 0 0 Try.underlying22
    go_enter Try.func22, Try.ntmps22
    go_wp2_with (at_builtin; refine print_append_row (w0 := w) w.heap.size rfl (.tmp 5) (.tmp 6) 22 5 .u8 1 rfl Try.underlying22 info_u8 (by omega) _ [] l _ n c rfl rfl HO.out HRa.out HB.out HB.out.size (by simpa using hsz) ?_; intro v1 w1 ho hb hg hat; have HO2 := Aside0.mk ho; have HB2 := Aside0.mk hb; clear ho hb hg hat)
    go_ret
    exact ⟨_, rfl, HO2.out, HB2.out⟩

def BoolPost (b : Bool) (w : World) (e : Ending) (w' : World) : Prop := e = .returned (.bool b) ∧ w = w'
theorem u8_toNat_inj {x y : Int} (hx : 0 ≤ x ∧ x < 256) (hy : 0 ≤ y ∧ y < 256) (h : UInt8.ofNat x.toNat = UInt8.ofNat y.toNat) : x = y := by
  have := congrArg UInt8.toNat h
  simp only [UInt8.toNat_ofNat'] at this
  omega
theorem map_u8_inj (l : List Int) : ∀ m : List Int, Bytes l → Bytes m → (l.map fun x => UInt8.ofNat x.toNat) = (m.map fun x => UInt8.ofNat x.toNat) → l = m := by
  induction l with
  | nil => intro m _ _ h; cases m with
    | nil => rfl
    | cons b m => simp at h
  | cons a l ih =>
    intro m hl hm h
    cases m with
    | nil => simp at h
    | cons b m =>
      simp only [List.map_cons, List.cons.injEq] at h
      rw [u8_toNat_inj (hl a (by simp)) (hm b (by simp)) h.1, ih m (fun x hx => hl x (by simp [hx])) (fun x hx => hm x (by simp [hx])) h.2]
theorem toList_data (s : ByteArray) : s.toList = s.data.toList := by
  have loop : ∀ (n i : Nat) (r : List UInt8), s.size - i = n → ByteArray.toList.loop s i r = r.reverse ++ s.data.toList.drop i := by
    intro n
    induction n with
    | zero =>
      intro i r h
      unfold ByteArray.toList.loop
      rw [if_neg (by omega), List.drop_eq_nil_of_le (by show s.data.toList.length ≤ i; simp; have : s.data.size = s.size := rfl; omega)]
      simp
    | succ n ih =>
      intro i r h
      unfold ByteArray.toList.loop
      have hi : i < s.size := by omega
      rw [if_pos hi, ih (i + 1) _ (by omega)]
      have hi' : i < s.data.toList.length := by simp; exact hi
      rw [List.drop_eq_getElem_cons hi']
      simp [ByteArray.get!, getElem!_pos s.data i hi]
  have := loop (s.size - 0) 0 [] rfl
  simpa [ByteArray.toList] using this
theorem strOfNums_eq {l m : List Int} (hl : Bytes l) (hm : Bytes m) : ((strOfNums l).toList == (strOfNums m).toList) = decide (l = m) := by
  rw [toList_data, toList_data, strOfNums_data, strOfNums_data]
  by_cases h : l = m
  · subst h; simp
  · have : ¬ (l.map fun x => UInt8.ofNat x.toNat) = (m.map fun x => UInt8.ofNat x.toNat) := fun e => h (map_u8_inj l m hl hm e)
    rw [beq_eq_false_iff_ne.2 this, decide_eq_false h]
set_option maxRecDepth 100000 in
theorem bytes_any (A B : Option Addr) (n m c d : Nat) (l k : List Int) (w : World) (HR : ReadsInt w .u8 A n l) (HS : ReadsInt w .u8 B m k) (hl : Bytes l) (hk : Bytes k) :
    Calls Try.prog 11 #[.slice A n c, .slice B m d] w (BoolPost (decide (l = k)) w) := by
  have h1 := string_of_reads (P := Try.prog) (c := c) Try.underlying22 Try.underlying5 Try.underlying9 HR
  have h2 := string_of_reads (P := Try.prog) (c := d) Try.underlying22 Try.underlying5 Try.underlying9 HS
  have HE := Aside0.mk (strOfNums_eq hl hk)
  clear hl hk HR HS
  go_enter Try.func11, Try.ntmps11
  go_wp2
  go_ret
  exact ⟨by rw [HE.out]; rfl, rfl⟩
set_option maxRecDepth 100000 in
theorem equal_any (A B : Option Addr) (n m c d : Nat) (l k : List Int) (w : World) (HR : ReadsInt w .u8 A n l) (HS : ReadsInt w .u8 B m k) (hl : Bytes l) (hk : Bytes k) :
    Calls Try.prog 23 #[.slice A n c, .slice B m d] w (BoolPost (decide (l = k)) w) := by
  have h1 := string_of_reads (P := Try.prog) (c := c) Try.underlying22 Try.underlying5 Try.underlying9 HR
  have h2 := string_of_reads (P := Try.prog) (c := d) Try.underlying22 Try.underlying5 Try.underlying9 HS
  have HE := Aside0.mk (strOfNums_eq hl hk)
  clear hl hk HR HS
  go_enter Try.func23, Try.ntmps23
  go_wp2
  go_ret
  exact ⟨by rw [HE.out]; rfl, rfl⟩

/-! The program's box. -/
/-- Block g is a box that has x; its bytes are in memory of the law's own, from block B on. -/
def IsBox (B : Nat) (w : World) (g : Nat) (x : Bx) : Prop :=
  ∃ v, w.heap[g]? = some (.cells #[.int .i64 x.ticks, .bool x.is, .int .i64 x.at_, .int .i64 x.seq, v] 46 (0, 0)) ∧ w.ownsRow B 5 1 v x.b.length (nums .u8 x.b) ∧ B ≤ g ∧ 0 ≤ x.seq ∧ x.seq < 16 ∧ Bytes x.b
def NewBox (B : Nat) (x : Bx) (w : World) (e : Ending) (w' : World) : Prop := ∃ g, e = .returned (.pointer (some ⟨g, 0, none⟩)) ∧ IsBox B w' g x ∧ w.heap.size ≤ g ∧ Below w.heap.size w w'
theorem bytes_nil : Bytes [] := by intro x hx; simp at hx

set_option maxHeartbeats 1000000 in
set_option maxRecDepth 100000 in
theorem new_any (B : Nat) (t : Int) (w : World) (hB : B ≤ w.heap.size) :
    Calls Try.prog 9 #[.int .i64 t] w (NewBox B (Bx.new t) w) := by
  go_enter Try.func9, Try.ntmps9
  go_wp2
  all_goals
    go_ret
    refine ⟨_, rfl, ⟨.slice none 0 0, ?_, own_nil _ _ _ _, hB, Int.le_refl _, (by decide : (0 : Int) < 16), bytes_nil⟩, Nat.le_refl _, below_alloc (Below.refl _ _) _⟩
  · rw [show Bx.new t = ⟨1, false, 0, 0, []⟩ by unfold Bx.new; rw [if_pos (by omega)]]; exact heap_alloc_new w _
  · rw [show Bx.new t = ⟨t, false, 0, 0, []⟩ by unfold Bx.new; rw [if_neg (by omega)]]; exact heap_alloc_new w _

theorem live_off {x : Bx} (h : x.is = false) (now : Int) : x.live now = false := by unfold Bx.live; rw [h]; rfl
theorem live_early {x : Bx} {now : Int} (h : ¬ x.at_ ≤ now) : x.live now = false := by unfold Bx.live; simp [h]
theorem live_on {x : Bx} {now : Int} (h : x.is = true) (h2 : x.at_ ≤ now) : x.live now = inTime x.at_ x.ticks now := by unfold Bx.live; simp [h, h2]

set_option maxHeartbeats 1000000 in
set_option maxRecDepth 100000 in
theorem live_any (B : Nat) (g : Nat) (x : Bx) (now : Int) (w : World) (hx : IsBox B w g x) (b : Bool) (hb : x.live now = b) :
    Calls Try.prog 13 #[.pointer (some ⟨g, 0, none⟩), .int .i64 now] w fun e w' => e = .returned (.bool b) ∧ ∃ n, w' = w.drewN n := by
  obtain ⟨v, hg, hv, hB, hs0, hs1, hbb⟩ := hx
  have c0 : w.cell? ⟨g, 0, none⟩ = some (.int .i64 x.ticks) := blk_cell hg 0
  have c1 : w.cell? ⟨g, 1, none⟩ = some (.bool x.is) := blk_cell hg 1
  have c2 : w.cell? ⟨g, 2, none⟩ = some (.int .i64 x.at_) := blk_cell hg 2
  clear hg hv hs0 hs1 hbb
  cases hi : x.is
  · have e := live_off hi now
    rw [hb] at e
    subst e
    rw [hi] at c1
    clear hi hb c0 c2
    go_enter Try.func13, Try.ntmps13
    go_wp2
    go_quiet (fail)
    go_wp2
    go_ret
    exact ⟨rfl, _, rfl⟩
  · rw [hi] at c1
    by_cases hn : x.at_ ≤ now
    · have e := live_on hi hn
      rw [hb] at e
      have HE := Aside0.mk e
      have hd : decide (x.at_ ≤ now) = true := decide_eq_true hn
      clear hi hb hn e
      go_enter Try.func13, Try.ntmps13
      go_wp2
      go_quiet (fail)
      go_wp2
      go_ret
      exact ⟨by rw [HE.out]; rfl, _, rfl⟩
    · have e := live_early hn
      rw [hb] at e
      subst e
      have hd : decide (x.at_ ≤ now) = false := decide_eq_false hn
      clear hi hb hn c0
      go_enter Try.func13, Try.ntmps13
      go_wp2
      go_quiet (fail)
      go_wp2
      go_ret
      exact ⟨rfl, _, rfl⟩

set_option maxHeartbeats 1000000 in
set_option maxRecDepth 100000 in
theorem void_any (B : Nat) (g : Nat) (x : Bx) (w : World) (hx : IsBox B w g x) :
    Calls Try.prog 19 #[.pointer (some ⟨g, 0, none⟩)] w fun e w' => e = .returned (.tuple #[]) ∧ IsBox B w' g x.void ∧ Chg g w w' := by
  obtain ⟨v, hg, hv, hB, hs0, hs1, hbb⟩ := hx
  have c1 : w.cell? ⟨g, 1, none⟩ = some (.bool x.is) := blk_cell hg 1
  have c2 : w.cell? ⟨g, 2, none⟩ = some (.int .i64 x.at_) := blk_cell hg 2
  have c3 : w.cell? ⟨g, 3, none⟩ = some (.int .i64 x.seq) := blk_cell hg 3
  have c4 : w.cell? ⟨g, 4, none⟩ = some v := blk_cell hg 4
  have f1 := blk_frozen hg 1
  have f2 := blk_frozen hg 2
  have f3 := blk_frozen hg 3
  have f4 := blk_frozen hg 4
  have HG := Aside0.mk hg
  clear hg hv hs0 hs1 hbb
  go_enter Try.func19, Try.ntmps19
  go_wp2
  go_end0
  refine ⟨rfl, ⟨.slice none 0 0, ?_, own_nil _ _ _ _, hB, Int.le_refl _, (by decide : (0 : Int) < 16), bytes_nil⟩, (((Chg.refl g w).set 1 _).set 2 _ |>.set 3 _).set 4 _⟩
  have h := blk_set (blk_set (blk_set (blk_set HG.out 1 (.bool false)) 2 (.int .i64 0)) 3 (.int .i64 0)) 4 (.slice none 0 0)
  simpa [Bx.void] using h

/-- A row of bytes outlives a store into a box. -/
theorem own_box {w : World} {base n g : Nat} {v : Value} {xs : List Value} {cs : Array Value} {t : Nat} (h : w.ownsRow base 5 1 v n xs) (hg : w.heap[g]? = some (.cells cs t (0, 0))) (ht : 5 ≠ t) (i : Nat) (u : Value) : (w.setCell ⟨g, i, none⟩ u).ownsRow base 5 1 v n xs ∧ (w.setCell ⟨g, i, none⟩ u).heap[g]? = some (.cells (cs.setIfInBounds i u) t (0, 0)) :=
  ⟨own_setCell h (own_ne h hg ht) u, blk_set hg i u⟩

set_option maxHeartbeats 1000000 in
set_option maxRecDepth 100000 in
theorem select_any (B : Nat) (g : Nat) (x : Bx) (now seq : Int) (A : Option Addr) (n c : Nat) (l : List Int) (w : World) (hx : IsBox B w g x) (HR : ReadsInt w .u8 A n l) (hb : Bytes l) (hsz : n ≤ 140737488355328) (hBw : B ≤ w.heap.size) :
    Calls Try.prog 10 #[.pointer (some ⟨g, 0, none⟩), .int .i64 now, .int .i64 seq, .slice A n c] w fun e w' => e = .returned (.tuple #[]) ∧ IsBox B w' g (x.sel now seq l) ∧ Chg g w w' := by
  obtain ⟨v, hg, hv, hB, hs0, hs1, hbb⟩ := hx
  have h15 := and15
  have HR0 := Aside0.mk HR
  clear HR
  go_enter Try.func10, Try.ntmps10
  go_wp2_with fail
  (with_reducible refine (clone_any A n c l _ HR0.out hsz).mono ?_)
  rintro e w1 ⟨v1, rfl, ho, hb1⟩
  have hg1 := (hb1.block g (blk_lt hg)).trans hg
  have HO := Aside0.mk (own_weaken ho hBw)
  have HG := Aside0.mk hg1
  have HC := Aside0.mk (Chg.of_below (g := g) hb1)
  have c1 : w1.cell? ⟨g, 1, none⟩ = some (.bool x.is) := blk_cell hg1 1
  have c2 : w1.cell? ⟨g, 2, none⟩ = some (.int .i64 x.at_) := blk_cell hg1 2
  have c3 : w1.cell? ⟨g, 3, none⟩ = some (.int .i64 x.seq) := blk_cell hg1 3
  have c4 : w1.cell? ⟨g, 4, none⟩ = some v := blk_cell hg1 4
  have f1 := blk_frozen hg1 1
  have f2 := blk_frozen hg1 2
  have f3 := blk_frozen hg1 3
  have f4 := blk_frozen hg1 4
  obtain ⟨A1, cc1, rfl⟩ := own_slice ho
  clear hg hg1 hv hs0 hs1 hbb hb1 ho
  go_wp2
  go_end0
  obtain ⟨o1, k1⟩ := own_box HO.out HG.out (by decide) 1 (.bool true)
  obtain ⟨o2, k2⟩ := own_box o1 k1 (by decide) 2 (.int .i64 now)
  obtain ⟨o3, k3⟩ := own_box o2 k2 (by decide) 3 (.int .i64 (seq % 16))
  obtain ⟨o4, k4⟩ := own_box o3 k3 (by decide) 4 (.slice A1 l.length cc1)
  refine ⟨rfl, ⟨.slice A1 l.length cc1, ?_, o4, hB, by show 0 ≤ seq % 16; omega, by show seq % 16 < 16; omega, hb⟩, HC.out.trans ((((Chg.refl g _).set 1 _).set 2 _ |>.set 3 _).set 4 _)⟩
  simpa [Bx.sel] using k4

theorem hit_off {x : Bx} {now seq : Int} {l : List Int} (h : x.live now = false) : x.hit now seq l = false := by unfold Bx.hit; rw [h]; rfl
theorem hit_seq {x : Bx} {now seq : Int} {l : List Int} (h : ¬ seq % 16 = (x.seq + 1) % 16) : x.hit now seq l = false := by unfold Bx.hit; simp [h]
theorem hit_bytes {x : Bx} {now seq : Int} {l : List Int} (h : ¬ l = x.b) : x.hit now seq l = false := by unfold Bx.hit; simp [h]
theorem hit_on {x : Bx} {now seq : Int} {l : List Int} (h : x.live now = true) (h2 : seq % 16 = (x.seq + 1) % 16) (h3 : l = x.b) : x.hit now seq l = true := by unfold Bx.hit; rw [h, decide_eq_true h2, decide_eq_true h3]; rfl
theorem quiet_draws {P : Program} {f : FuncId} {args : Array Value} {w : World} {n : Nat} {v : Value}
    (h : Calls P f args (w.drewN n) fun e w' => e = .returned v ∧ ∃ m, w' = (w.drewN n).drewN m) : Calls P f args (w.drewN n) fun e w'' => e = .returned v ∧ ∃ m, w'' = w.drewN m := Calls.quiet_of h
theorem quiet_same {P : Program} {f : FuncId} {args : Array Value} {w : World} {n : Nat} {b : Bool}
    (h : Calls P f args (w.drewN n) (BoolPost b (w.drewN n))) : Calls P f args (w.drewN n) fun e w'' => e = .returned (.bool b) ∧ ∃ m, w'' = w.drewN m :=
  h.mono fun _ _ ⟨he, hm⟩ => ⟨he, n, hm.symm⟩
theorem reads_drewN {w : World} {k : IntKind} {A : Option Addr} {n : Nat} {xs : List Int} (h : ReadsInt w k A n xs) (m : Nat) : ReadsInt (w.drewN m) k A n xs := h
theorem IsBox.drewN {B : Nat} {w : World} {g : Nat} {x : Bx} (h : IsBox B w g x) (m : Nat) : IsBox B (w.drewN m) g x := h

set_option maxHeartbeats 1000000 in
set_option maxRecDepth 100000 in
theorem match_any (B : Nat) (g : Nat) (x : Bx) (now seq : Int) (A : Option Addr) (n c : Nat) (l : List Int) (w : World) (hx : IsBox B w g x) (HR : ReadsInt w .u8 A n l) (hb : Bytes l) (b : Bool) (hh : x.hit now seq l = b) :
    Calls Try.prog 12 #[.pointer (some ⟨g, 0, none⟩), .int .i64 now, .int .i64 seq, .slice A n c] w fun e w' => e = .returned (.bool b) ∧ IsBox B w' g (x.matched b) ∧ Chg g w w' := by
  have HX := Aside0.mk hx
  obtain ⟨v, hg, hv, hB, hs0, hs1, hbb⟩ := hx
  obtain ⟨A4, cc4, rfl, HS⟩ := own_reads hv
  have c3 : w.cell? ⟨g, 3, none⟩ = some (.int .i64 x.seq) := blk_cell hg 3
  have c4 : w.cell? ⟨g, 4, none⟩ = some (.slice A4 x.b.length cc4) := blk_cell hg 4
  have h15 := and15
  have HRa := Aside0.mk HR
  have HSa := Aside0.mk HS
  have HBa := Aside0.mk hb
  have HBb := Aside0.mk hbb
  clear hg hv HR HS hb hbb
  cases hl : x.live now
  · have e := hit_off (seq := seq) (l := l) hl
    rw [hh] at e
    subst e
    have HL := Aside0.mk hl
    clear hl hh c3 c4 hs0 hs1
    go_enter Try.func12, Try.ntmps12
    go_wp2_with fail
    (with_reducible refine (live_any B g x now _ HX.out false HL.out).mono ?_)
    rintro e w' ⟨rfl, m, rfl⟩
    go_wp2
    go_ret
    exact ⟨rfl, HX.out.drewN _, (Chg.refl g w).drewN _⟩
  · have HL := Aside0.mk hl
    clear hl
    by_cases hq : seq % 16 = (x.seq + 1) % 16
    · have hqd : (seq % 16 != (x.seq + 1) % 16) = false := by simp [hq]
      by_cases hbe : l = x.b
      · have e := hit_on HL.out hq hbe
        rw [hh] at e
        subst e
        have HE := Aside0.mk (decide_eq_true hbe)
        clear hh hq hbe
        go_enter Try.func12, Try.ntmps12
        go_wp2_with fail
        (with_reducible refine (live_any B g x now _ HX.out true HL.out).mono ?_)
        rintro e w' ⟨rfl, m, rfl⟩
        go_wp2_with fail
        (with_reducible refine (equal_any _ _ _ _ _ _ l x.b _ (reads_drewN HRa.out m) (reads_drewN HSa.out m) HBa.out HBb.out).mono ?_)
        rintro e w' ⟨rfl, rfl⟩
        rw [HE.out]
        go_wp2_with fail
        (with_reducible refine (void_any B g x _ (HX.out.drewN m)).mono ?_)
        rintro e w' ⟨rfl, hx2, hc2⟩
        have HX2 := Aside0.mk hx2
        have HC2 := Aside0.mk hc2
        clear hx2 hc2
        go_wp2
        go_ret
        exact ⟨rfl, HX2.out, ((Chg.refl g w).drewN _).trans HC2.out⟩
      · have e := hit_bytes (now := now) (seq := seq) hbe
        rw [hh] at e
        subst e
        have HE := Aside0.mk (decide_eq_false hbe)
        clear hh hq hbe
        go_enter Try.func12, Try.ntmps12
        go_wp2_with fail
        (with_reducible refine (live_any B g x now _ HX.out true HL.out).mono ?_)
        rintro e w' ⟨rfl, m, rfl⟩
        go_wp2_with fail
        (with_reducible refine (equal_any _ _ _ _ _ _ l x.b _ (reads_drewN HRa.out m) (reads_drewN HSa.out m) HBa.out HBb.out).mono ?_)
        rintro e w' ⟨rfl, rfl⟩
        rw [HE.out]
        go_wp2
        go_ret
        exact ⟨rfl, HX.out.drewN _, (Chg.refl g w).drewN _⟩
    · have hqd : (seq % 16 != (x.seq + 1) % 16) = true := by simp [hq]
      have e := hit_seq (now := now) (l := l) hq
      rw [hh] at e
      subst e
      clear hh hq
      go_enter Try.func12, Try.ntmps12
      go_wp2_with fail
      (with_reducible refine (live_any B g x now _ HX.out true HL.out).mono ?_)
      rintro e w' ⟨rfl, m, rfl⟩
      go_wp2
      go_ret
      exact ⟨rfl, HX.out.drewN _, (Chg.refl g w).drewN _⟩

def CopyBox (B : Nat) (x : Bx) (w : World) (e : Ending) (w' : World) : Prop := ∃ g, e = .returned (.pointer (some ⟨g, 0, none⟩)) ∧ IsBox B w' g x ∧ w.heap.size ≤ g ∧ Below w.heap.size w w'
set_option maxHeartbeats 1000000 in
set_option maxRecDepth 100000 in
theorem copy_any (B : Nat) (g : Nat) (x : Bx) (w : World) (hx : IsBox B w g x) (hBw : B ≤ w.heap.size) (hsz : x.b.length ≤ 140737488355328) :
    Calls Try.prog 20 #[.pointer (some ⟨g, 0, none⟩)] w (CopyBox B x w) := by
  obtain ⟨v, hg, hv, hB, hs0, hs1, hbb⟩ := hx
  obtain ⟨A4, cc4, rfl, HS⟩ := own_reads hv
  have HG := Aside0.mk hg
  have hst := run_storeAt_new (P := Try.prog) w 46 #[.int .i64 0, .bool false, .int .i64 0, .int .i64 0, .slice none 0 0] #[.int .i64 x.ticks, .bool x.is, .int .i64 x.at_, .int .i64 x.seq, .slice A4 x.b.length cc4] (by kernel_rfl) rfl (by simp [Value.oneCell'])
  have k4 : (w.alloc (.cells #[.int .i64 x.ticks, .bool x.is, .int .i64 x.at_, .int .i64 x.seq, .slice A4 x.b.length cc4] 46)).cell? ⟨g, 4, none⟩ = some (.slice A4 x.b.length cc4) := pw_cell_below (below_alloc (Below.refl _ _) _) (blk_cell hg 4)
  have HSa := Aside0.mk (HS.below (below_alloc (Below.refl w.heap.size w) (.cells #[.int .i64 x.ticks, .bool x.is, .int .i64 x.at_, .int .i64 x.seq, .slice A4 x.b.length cc4] 46)))
  have HBa := Aside0.mk (below_alloc (Below.refl w.heap.size w) (.cells #[.int .i64 x.ticks, .bool x.is, .int .i64 x.at_, .int .i64 x.seq, .slice A4 x.b.length cc4] 46))
  have HNa := Aside0.mk (heap_alloc_new w (.cells #[.int .i64 x.ticks, .bool x.is, .int .i64 x.at_, .int .i64 x.seq, .slice A4 x.b.length cc4] 46))
  clear hg hv HS
  go_enter Try.func20, Try.ntmps20
  go_wp2_with ((with_reducible refine gate_dst (N := 6) rfl ?_); refine wpList_load_row rfl 46 (.tmp 5) rfl g rfl 46 _ (0, 0) _ HG.out Try.underlying46 rfl (by kernel_rfl) ?_)
  (with_reducible refine (clone_any _ _ _ x.b _ HSa.out hsz).mono ?_)
  rintro e w1 ⟨v1, rfl, ho, hb1⟩
  have HB1 := Aside0.mk (below_two HBa.out hb1)
  have hg1 := (hb1.block w.heap.size (by simp)).trans HNa.out
  have HO := Aside0.mk (own_weaken ho (show B ≤ _ by simp; omega))
  have HG1 := Aside0.mk hg1
  have c4 := blk_cell hg1 4
  have f4 := blk_frozen hg1 4
  obtain ⟨A1, cc1, rfl⟩ := own_slice ho
  clear hb1 ho hg1 k4 hst
  go_wp2
  go_ret
  obtain ⟨o4, k4⟩ := own_box HO.out HG1.out (by decide) 4 (.slice A1 x.b.length cc1)
  refine ⟨_, rfl, ⟨.slice A1 x.b.length cc1, ?_, o4, hBw, hs0, hs1, hbb⟩, Nat.le_refl _, HB1.out.setCell (Nat.le_refl _) _⟩
  simpa using k4
end Go.Proofs.Ytoieognhjebcpaa
