/- What every seat of this program shares: worlds in which one block turns, bytes as strings, the library's and the references' small functions. Conditions: bytes are bytes. -/
import Derived.Test.YthdjlhhdjanocaaProg
import Derived.Test.YthdjlhhdjanocaaWWords
import Derived.WalkKit
import Derived.WalkSpells
import Derived.WalkLawsBesides
import Derived.Lib.Hide
import Derived.Lib.SlBytesConst
import Derived.Outline
import Derived.LoopTactic
import Derived.Deep.QuietTactic
import Derived.BigQuiet
import Derived.Laws.Rows
import Derived.Deep.WholeRow
import Derived.Laws.BitsLemmas
import Derived.StillTailTactics
import Derived.Deep.RegionHeld3
namespace Go.Proofs.Ythdjlhhdjanocaa
open Go.RowKit Go.Proofs.YthdjlhhdjanocaaW.PrintWords
set_option linter.unusedVariables false

def Bytes (l : List Int) : Prop := ∀ x ∈ l, 0 ≤ x ∧ x < 256
/-- Nothing that was there turns but block g. -/
structure Chg (g : Nat) (w w' : World) : Prop where
  os : w'.os = w.os
  tape : w'.tape = w.tape
  output : w'.output = w.output
  size : w.heap.size ≤ w'.heap.size
  block : ∀ k, k < w.heap.size → k ≠ g → w'.heap[k]? = w.heap[k]?
theorem Chg.refl (g : Nat) (w : World) : Chg g w w := ⟨rfl, rfl, rfl, Nat.le_refl _, fun _ _ _ => rfl⟩
theorem Chg.trans {g : Nat} {a b c : World} (h : Chg g a b) (k : Chg g b c) : Chg g a c :=
  ⟨k.os.trans h.os, k.tape.trans h.tape, k.output.trans h.output, Nat.le_trans h.size k.size, fun i hi hg => (k.block i (Nat.lt_of_lt_of_le hi h.size) hg).trans (h.block i hi hg)⟩
theorem Chg.of_below {g : Nat} {w w' : World} (h : Below w.heap.size w w') : Chg g w w' := ⟨h.os, h.tape, h.output, h.size, fun k hk _ => h.block k hk⟩
theorem Chg.set {g : Nat} {a w : World} (h : Chg g a w) (i : Nat) (u : Value) : Chg g a (w.setCell ⟨g, i, none⟩ u) :=
  h.trans ⟨rfl, rfl, rfl, by simp [World.setCell], fun k hk hne => Below.heap_setCell _ _ _ _ hne⟩
theorem Chg.below {g B : Nat} {w w' : World} (h : Chg g w w') (hg : B ≤ g) (hB : B ≤ w.heap.size) : Below B w w' :=
  ⟨h.os, h.tape, h.output, h.size, fun k hk => h.block k (by omega) (by omega)⟩
theorem Chg.drewN {g : Nat} {a w : World} (h : Chg g a w) (m : Nat) : Chg g a (w.drewN m) := h.trans (Chg.of_below (pw_below_drewN (Below.refl _ _) m))
theorem below_two {w w1 w2 : World} (h : Below w.heap.size w w1) (k : Below w1.heap.size w1 w2) : Below w.heap.size w w2 := h.trans (k.mono h.size)
theorem below_chg {w w1 w2 : World} {g : Nat} (h : Below w.heap.size w w1) (k : Chg g w1 w2) (hg : w.heap.size ≤ g) : Below w.heap.size w w2 := h.trans (k.below hg h.size)

theorem Chg.new {g : Nat} {a w : World} (h : Chg g a w) {p : Addr} (hp : a.heap.size ≤ p.block) (u : Value) : Chg g a (w.setCell p u) :=
  ⟨h.os, h.tape, h.output, Nat.le_trans h.size (by simp [World.setCell]), fun k hk hg => (Below.heap_setCell w p u k (by omega)).trans (h.block k hk hg)⟩
theorem Chg.alloc {g : Nat} {a w : World} (h : Chg g a w) (o : Obj) : Chg g a (w.alloc o) := h.trans (Chg.of_below (below_alloc (Below.refl _ _) o))
theorem Chg.then_below {g : Nat} {a w w1 : World} (h : Chg g a w) (k : Below w.heap.size w w1) : Chg g a w1 := h.trans (Chg.of_below k)
theorem retI {k : IntKind} {a b : Int} (h : a = b) : Ending.returned (.int k a) = .returned (.int k b) := by rw [h]
theorem info_u8 : (Try.prog.info? 5).map (fun i => (i.zero, i.size, i.bytes)) = some (some (.int .u8 0), 1, 1) := by kernel_rfl
def MadeBytes (l : List Int) (w : World) (e : Ending) (w' : World) : Prop := ∃ v, e = .returned v ∧ w'.ownsRow w.heap.size 5 1 v l.length (nums .u8 l) ∧ Below w.heap.size w w'
set_option maxHeartbeats 1000000 in
set_option maxRecDepth 100000 in
theorem copyBytes_any (A : Option Addr) (n c : Nat) (l : List Int) (w : World) (HR : ReadsInt w .u8 A n l) (hsz : n ≤ 140737488355328) :
    Calls Try.prog 15 #[.slice A n c] w (MadeBytes l w) := by
  have HL := Lib.hid HR.1
  have HB := Aside0.mk (below_alloc (Below.refl w.heap.size w) (.cells #[] 5))
  have HO := Aside0.mk (own_lit w w.heap.size 5 .u8 [] (Nat.le_refl _) (by decide))
  have HRa := Aside0.mk (HR.below (below_alloc (Below.refl w.heap.size w) (.cells #[] 5)))
  go_enter Try.func15, Try.ntmps15
  go_wp2_with (at_builtin; refine print_append_row (w0 := w) w.heap.size rfl (.tmp 3) (.tmp 4) 27 5 .u8 1 rfl Try.underlying27 info_u8 (by omega) _ [] l A n c rfl rfl HO.out HRa.out HB.out HB.out.size (by simpa using hsz) ?_; intro v1 w1 ho hb hg hat; have HO2 := Aside0.mk ho; have HB2 := Aside0.mk hb; clear ho hb hg hat)
  go_ret
  exact ⟨_, rfl, HO2.out, HB2.out⟩

set_option maxHeartbeats 1000000 in
set_option maxRecDepth 100000 in
theorem clone_any (A : Option Addr) (n c : Nat) (l : List Int) (w : World) (HR : ReadsInt w .u8 A n l) (hsz : n ≤ 140737488355328) :
    Calls Try.prog 23 #[.slice A n c] w (MadeBytes l w) := by
  have HL := Lib.hid HR.1
  have HB := Aside0.mk (below_alloc (Below.refl w.heap.size w) (.cells #[] 5))
  have HO := Aside0.mk (own_lit w w.heap.size 5 .u8 [] (Nat.le_refl _) (by decide))
  have HRa := Aside0.mk (HR.below (below_alloc (Below.refl w.heap.size w) (.cells #[] 5)))
  rcases A with _ | a
  · have hl : l = [] := by
      have h0 : n = 0 := by
        rcases Nat.eq_zero_or_pos n with h | h
        · exact h
        · obtain ⟨_, h, _⟩ := HR.2.2 h; cases h
      exact List.eq_nil_of_length_eq_zero (HR.1.trans h0)
    have HE := Aside0.mk hl
    have hk := fun (W : World) => Lib.run_eql_slice_nil (P := Try.prog) W 27 5 none n c 0 0 Try.underlying27
    clear HR hl
    go_enter Try.func23, Try.ntmps23
    go_wp2
    go_ret
    exact ⟨_, rfl, by rw [HE.out]; exact own_nil _ _ _ _, Below.refl _ _⟩
  · have hk := fun (W : World) => Lib.run_eql_slice_nil (P := Try.prog) W 27 5 (some a) n c 0 0 Try.underlying27
    go_enter Try.func23, Try.ntmps23
    go_wp2_with (at_builtin; refine print_append_row (w0 := w) w.heap.size rfl (.tmp 5) (.tmp 6) 27 5 .u8 1 rfl Try.underlying27 info_u8 (by omega) _ [] l _ n c rfl rfl HO.out HRa.out HB.out HB.out.size (by simpa using hsz) ?_; intro v1 w1 ho hb hg hat; have HO2 := Aside0.mk ho; have HB2 := Aside0.mk hb; clear ho hb hg hat)
    go_ret
    exact ⟨_, rfl, HO2.out, HB2.out⟩

def BoolPost (b : Bool) (w : World) (e : Ending) (w' : World) : Prop := e = .returned (.bool b) ∧ w = w'
theorem u8_toNat_inj {x y : Int} (hx : 0 ≤ x ∧ x < 256) (hy : 0 ≤ y ∧ y < 256) (h : UInt8.ofNat x.toNat = UInt8.ofNat y.toNat) : x = y := by
  have := congrArg UInt8.toNat h
  simp only [UInt8.toNat_ofNat'] at this
  omega
theorem map_u8_inj (l : List Int) : ∀ m : List Int, Bytes l → Bytes m → (l.map fun x => UInt8.ofNat x.toNat) = (m.map fun x => UInt8.ofNat x.toNat) → l = m := by
  induction l with
  | nil => intro m _ _ h; cases m with
    | nil => rfl
    | cons b m => simp at h
  | cons a l ih =>
    intro m hl hm h
    cases m with
    | nil => simp at h
    | cons b m =>
      simp only [List.map_cons, List.cons.injEq] at h
      rw [u8_toNat_inj (hl a (by simp)) (hm b (by simp)) h.1, ih m (fun x hx => hl x (by simp [hx])) (fun x hx => hm x (by simp [hx])) h.2]
theorem toList_data (s : ByteArray) : s.toList = s.data.toList := by
  have loop : ∀ (n i : Nat) (r : List UInt8), s.size - i = n → ByteArray.toList.loop s i r = r.reverse ++ s.data.toList.drop i := by
    intro n
    induction n with
    | zero =>
      intro i r h
      unfold ByteArray.toList.loop
      rw [if_neg (by omega), List.drop_eq_nil_of_le (by show s.data.toList.length ≤ i; simp; have : s.data.size = s.size := rfl; omega)]
      simp
    | succ n ih =>
      intro i r h
      unfold ByteArray.toList.loop
      have hi : i < s.size := by omega
      rw [if_pos hi, ih (i + 1) _ (by omega)]
      have hi' : i < s.data.toList.length := by simp; exact hi
      rw [List.drop_eq_getElem_cons hi']
      simp [ByteArray.get!, getElem!_pos s.data i hi]
  have := loop (s.size - 0) 0 [] rfl
  simpa [ByteArray.toList] using this
theorem strOfNums_eq {l m : List Int} (hl : Bytes l) (hm : Bytes m) : ((strOfNums l).toList == (strOfNums m).toList) = decide (l = m) := by
  rw [toList_data, toList_data, strOfNums_data, strOfNums_data]
  by_cases h : l = m
  · subst h; simp
  · have : ¬ (l.map fun x => UInt8.ofNat x.toNat) = (m.map fun x => UInt8.ofNat x.toNat) := fun e => h (map_u8_inj l m hl hm e)
    rw [beq_eq_false_iff_ne.2 this, decide_eq_false h]
set_option maxRecDepth 100000 in
theorem bytes_any (A B : Option Addr) (n m c d : Nat) (l k : List Int) (w : World) (HR : ReadsInt w .u8 A n l) (HS : ReadsInt w .u8 B m k) (hl : Bytes l) (hk : Bytes k) :
    Calls Try.prog 18 #[.slice A n c, .slice B m d] w (BoolPost (decide (l = k)) w) := by
  have h1 := string_of_reads (P := Try.prog) (c := c) Try.underlying27 Try.underlying5 Try.underlying9 HR
  have h2 := string_of_reads (P := Try.prog) (c := d) Try.underlying27 Try.underlying5 Try.underlying9 HS
  have HE := Aside0.mk (strOfNums_eq hl hk)
  clear hl hk HR HS
  go_enter Try.func18, Try.ntmps18
  go_wp2
  go_ret
  exact ⟨by rw [HE.out]; rfl, rfl⟩
theorem bytes_same (A B : Option Addr) (n m c d : Nat) (l : List Int) (w : World) (HR : ReadsInt w .u8 A n l) (HS : ReadsInt w .u8 B m l) (hl : Bytes l) :
    Calls Try.prog 18 #[.slice A n c, .slice B m d] w (BoolPost true w) := by
  have h := bytes_any A B n m c d l l w HR HS hl hl
  rwa [decide_eq_true (rfl : l = l)] at h
theorem bytes_nil : Bytes [] := by intro x hx; simp at hx
theorem results_cttt {P : Program} {fn : Func} {p u v x : Tmp} {ty : TypeId} (h : fn.results = #[.cell p ty, .tmp u, .tmp v, .tmp x]) (tmps : Array Value) (w : World) (g : Nat) (t : TypeId) (cs : Array Value) (fr : Nat × Nat) (d : TypeDesc)
    (hp : tmps.getD p undef = .pointer (some ⟨g, 0, none⟩)) (hg : w.heap[g]? = some (.cells cs t fr))
    (hu : P.underlying ty = some d) (hd : (match d with | .struct _ | .array _ _ => true | _ => false) = true) (hi : (P.info? ty).map (·.size) = some cs.size) :
    (results fn tmps).run P w = .ok (.tuple #[.agg cs, tmps.getD u undef, tmps.getD v undef, tmps.getD x undef]) w := by
  have hp' : tmps[p]?.getD undef = .pointer (some ⟨g, 0, none⟩) := by simpa using hp
  simp [results, h, hp', asAddr, run_loadVar_row w g t ty cs fr d hg hu hd hi]
theorem heap_two (w : World) (a b : Obj) : ((w.alloc a).alloc b).heap[w.heap.size + 1]? = some b := by
  have h := heap_alloc_new (w.alloc a) b
  simpa using h
theorem heap_twoN (w : World) (a b : Obj) (n : Nat) : (((w.alloc a).alloc b).drewN n).heap[w.heap.size + 1]? = some b := heap_two w a b
theorem heap_twoNN (w : World) (a b : Obj) (n m : Nat) : ((((w.alloc a).alloc b).drewN n).drewN m).heap[w.heap.size + 1]? = some b := heap_two w a b
/-- Two new blocks, the later one's four cells put anew. -/
theorem heap_fourN (w : World) (a : Obj) (t : TypeId) (x0 x1 x2 x3 y0 y1 y2 y3 : Value) (n : Nat) :
    ((((((((w.alloc a).alloc (.cells #[x0, x1, x2, x3] t (0, 0))).drewN n).setCell ⟨w.heap.size + 1, 0, none⟩ y0).setCell ⟨w.heap.size + 1, 1, none⟩ y1).setCell ⟨w.heap.size + 1, 2, none⟩ y2).setCell ⟨w.heap.size + 1, 3, none⟩ y3).heap[w.heap.size + 1]?) = some (.cells #[y0, y1, y2, y3] t (0, 0)) := by
  have h := blk_set (blk_set (blk_set (blk_set (heap_twoN w a (.cells #[x0, x1, x2, x3] t (0, 0)) n) 0 y0) 1 y1) 2 y2) 3 y3
  simpa using h
theorem chg_fourN (g : Nat) (w : World) (a b : Obj) (y0 y1 y2 y3 : Value) (n : Nat) :
    Chg g w ((((((w.alloc a).alloc b).drewN n).setCell ⟨w.heap.size + 1, 0, none⟩ y0).setCell ⟨w.heap.size + 1, 1, none⟩ y1).setCell ⟨w.heap.size + 1, 2, none⟩ y2 |>.setCell ⟨w.heap.size + 1, 3, none⟩ y3) :=
  (((((((Chg.refl g w).alloc a).alloc b).drewN n).new (Nat.le_succ _) y0).new (Nat.le_succ _) y1).new (Nat.le_succ _) y2).new (Nat.le_succ _) y3
theorem below_fourN (w : World) (a b : Obj) (y0 y1 y2 y3 : Value) (n : Nat) :
    Below w.heap.size w ((((((w.alloc a).alloc b).drewN n).setCell ⟨w.heap.size + 1, 0, none⟩ y0).setCell ⟨w.heap.size + 1, 1, none⟩ y1).setCell ⟨w.heap.size + 1, 2, none⟩ y2 |>.setCell ⟨w.heap.size + 1, 3, none⟩ y3) := by
  have h := chg_fourN w.heap.size w a b y0 y1 y2 y3 n
  exact ⟨h.os, h.tape, h.output, h.size, fun k hk => h.block k hk (by omega)⟩
/-- A block of four cells, each put anew. -/
theorem set_four {w : World} {g : Nat} {t : TypeId} {x0 x1 x2 x3 : Value} (h : w.heap[g]? = some (.cells #[x0, x1, x2, x3] t (0, 0))) (y0 y1 y2 y3 : Value) :
    ((((w.setCell ⟨g, 0, none⟩ y0).setCell ⟨g, 1, none⟩ y1).setCell ⟨g, 2, none⟩ y2).setCell ⟨g, 3, none⟩ y3).heap[g]? = some (.cells #[y0, y1, y2, y3] t (0, 0)) := by
  have h := blk_set (blk_set (blk_set (blk_set h 0 y0) 1 y1) 2 y2) 3 y3
  simpa using h
theorem Chg.four {g : Nat} {a w : World} (h : Chg g a w) {k : Nat} (hk : a.heap.size ≤ k) (y0 y1 y2 y3 : Value) :
    Chg g a ((((w.setCell ⟨k, 0, none⟩ y0).setCell ⟨k, 1, none⟩ y1).setCell ⟨k, 2, none⟩ y2).setCell ⟨k, 3, none⟩ y3) :=
  (((h.new hk y0).new hk y1).new hk y2).new hk y3
theorem keep_four {w : World} {g k : Nat} {o : Obj} (h : w.heap[g]? = some o) (hk : g ≠ k) (y0 y1 y2 y3 : Value) :
    ((((w.setCell ⟨k, 0, none⟩ y0).setCell ⟨k, 1, none⟩ y1).setCell ⟨k, 2, none⟩ y2).setCell ⟨k, 3, none⟩ y3).heap[g]? = some o := by
  rw [Below.heap_setCell _ _ _ _ hk, Below.heap_setCell _ _ _ _ hk, Below.heap_setCell _ _ _ _ hk, Below.heap_setCell _ _ _ _ hk, h]
theorem quiet_draws {P : Program} {f : FuncId} {args : Array Value} {w : World} {n : Nat} {v : Value}
    (h : Calls P f args (w.drewN n) fun e w' => e = .returned v ∧ ∃ m, w' = (w.drewN n).drewN m) : Calls P f args (w.drewN n) fun e w'' => e = .returned v ∧ ∃ m, w'' = w.drewN m := Calls.quiet_of h
theorem quiet_same {P : Program} {f : FuncId} {args : Array Value} {w : World} {n : Nat} {b : Bool}
    (h : Calls P f args (w.drewN n) (BoolPost b (w.drewN n))) : Calls P f args (w.drewN n) fun e w'' => e = .returned (.bool b) ∧ ∃ m, w'' = w.drewN m :=
  h.mono fun _ _ ⟨he, hm⟩ => ⟨he, n, hm.symm⟩
theorem reads_drewN {w : World} {k : IntKind} {A : Option Addr} {n : Nat} {xs : List Int} (h : ReadsInt w k A n xs) (m : Nat) : ReadsInt (w.drewN m) k A n xs := h
theorem reads_nil (w : World) (k : IntKind) (A : Option Addr) : ReadsInt w k A 0 [] := ⟨rfl, by omega, fun h => absurd h (by omega)⟩
theorem reads_block {w : World} {g n : Nat} {k : IntKind} {l : List Int} {t : TypeId} {fr : Nat × Nat} {cs : Array Value} (h : w.heap[g]? = some (.cells cs t fr)) (hc : cs = (nums k l).toArray) (hn : l.length = n) (hm : n ≤ 9223372036854775807) : ReadsInt w k (some ⟨g, 0, none⟩) n l := by
  subst hc
  refine ⟨hn, hm, fun _ => ⟨_, rfl, fun j hj => ?_⟩⟩
  rw [add_plain, cell_of_row w g j _ t fr h]
  simp [nums, List.getElem?_eq_getElem (show j < l.length by omega), List.getD_eq_getElem?_getD]
theorem wf_byte {x : Int} (h : (Lit.int .u8 x).wf = true) : 0 ≤ x ∧ x < 256 := by
  simp [Lit.wf, IntKind.min, IntKind.max, IntKind.bits, IntKind.signed] at h
  omega
theorem wf_int {x : Int} (h : (Lit.int .i64 x).wf = true) : -9223372036854775808 ≤ x ∧ x ≤ 9223372036854775807 := by
  simp [Lit.wf, IntKind.min, IntKind.max, IntKind.bits, IntKind.signed] at h
  omega
theorem wf_bytes {l : List Int} (h : ∀ x ∈ l, (Lit.int .u8 x).wf = true) : Bytes l := fun x hx => wf_byte (h x hx)
theorem reads_int {k : IntKind} {w : World} {A : Option Addr} {n : Nat} {xs : List Int} (h : (Kd.int k).C w A n xs) : ReadsInt w k A n xs := Kd.reads_of_C (d := (0 : Int)) h
/-- A row of one's own, when a block of another type turns. -/
theorem own_chg {w w1 : World} {B n g e size : Nat} {v : Value} {xs : List Value} {cs : Array Value} {t : Nat} (h : w.ownsRow B e size v n xs) (hg : w.heap[g]? = some (.cells cs t (0, 0))) (ht : e ≠ t) (hc : Chg g w w1) : w1.ownsRow B e size v n xs := by
  have hvb := own_ne h hg ht
  refine ⟨h.1, ?_⟩
  rcases h.2 with h0 | ⟨gb, cap, cur, rfl, hb, hh, q⟩
  · exact .inl h0
  · refine .inr ⟨gb, cap, cur, rfl, hb, ?_, q⟩
    rw [hc.block gb (blk_lt hh) (fun e => hvb (by rw [e]; rfl))]; exact hh
/-- A row of one's own, when a block of four cells of another type is put anew. -/
theorem own_four {w : World} {B n k e size : Nat} {v : Value} {xs : List Value} {cs : Array Value} {t : Nat} (h : w.ownsRow B e size v n xs) (hk : w.heap[k]? = some (.cells cs t (0, 0))) (ht : e ≠ t) (y0 y1 y2 y3 : Value) {B1 : Nat} (hB : B1 ≤ B) :
    ((((w.setCell ⟨k, 0, none⟩ y0).setCell ⟨k, 1, none⟩ y1).setCell ⟨k, 2, none⟩ y2).setCell ⟨k, 3, none⟩ y3).ownsRow B1 e size v n xs :=
  own_weaken (own_chg h hk ht (((((Chg.refl k w).set 0 y0).set 1 y1).set 2 y2).set 3 y3)) hB
theorem bytes_set {l : List Int} (h : Bytes l) (i : Nat) (v : Int) (h0 : 0 ≤ v) (h1 : v < 256) : Bytes (l.set i v) := by
  intro x hx
  rcases List.mem_or_eq_of_mem_set hx with h' | h'
  · exact h x h'
  · subst h'; exact ⟨h0, h1⟩
theorem rd_bytes {l : List Int} (h : Bytes l) (j : Nat) (hj : j < l.length) : 0 ≤ rd l j ∧ rd l j < 256 := by
  unfold rd
  rw [Int.toNat_natCast, List.getD_eq_getElem?_getD, List.getElem?_eq_getElem hj]
  exact h _ (List.getElem_mem hj)
theorem getD_mem {α : Type} (l : List α) (k : Nat) (h : k < l.length) (d : α) : l.getD k d ∈ l := by
  simp [List.getD_eq_getElem?_getD, List.getElem?_eq_getElem h]
theorem take_next {α : Type} (l : List α) (k : Nat) (h : k < l.length) (d : α) : l.take (k + 1) = l.take k ++ [l.getD k d] := by
  rw [List.take_succ_eq_append_getElem h]; simp [List.getD_eq_getElem?_getD, List.getElem?_eq_getElem h]
end Go.Proofs.Ythdjlhhdjanocaa
