/- The line that fails: what it is in a world; a new one; its fault; what is held. No condition. -/
import Derived.Test.YthdjlhhdjanocaaBase
import Derived.Deep.RegionLaw
namespace Go.Proofs.Ythdjlhhdjanocaa
open Go.RowKit Go.Proofs.YthdjlhhdjanocaaW.PrintWords
set_option linter.unusedVariables false
/-! A row of bytes for itself. -/
abbrev OwnB (B : Nat) (w : World) (v : Value) (l : List Int) : Prop := w.ownsRow B 5 1 v l.length (nums .u8 l)
/-- The ready frames: a row for itself of rows for themselves. -/
def RowB (B : Nat) (w : World) (rv : Value) (r : List (List Int)) : Prop :=
  ∃ ps : List (Value × List Int), r = ps.map (·.2) ∧ w.ownsRow B 27 1 rv ps.length (ps.map (·.1)) ∧ ∀ p ∈ ps, OwnB B w p.1 p.2
def HeldB (B : Nat) (w : World) (hv : Value) : Option (List Int) → Prop
  | none => hv = .slice none 0 0
  | some l => 0 < l.length ∧ OwnB B w hv l
structure LS where
  k : Int
  a : Int
  r : List (List Int)
  h : Option (List Int)
/-- Line g: its four cells; rv: where its ready frames lie. -/
def IsLn (B : Nat) (w : World) (g : Nat) (rv : Value) (s : LS) : Prop :=
  ∃ hv, w.heap[g]? = some (.cells #[.int .i64 s.k, .int .i64 s.a, rv, hv] 47 (0, 0)) ∧ B ≤ g ∧ RowB B w rv s.r ∧ HeldB B w hv s.h
/-- Nothing that was there turns but block g and the row rv. -/
structure ChgL (g : Nat) (rv : Value) (w w' : World) : Prop where
  os : w'.os = w.os
  tape : w'.tape = w.tape
  output : w'.output = w.output
  size : w.heap.size ≤ w'.heap.size
  block : ∀ k, k < w.heap.size → k ≠ g → rv.ownBlock ≠ some k → w'.heap[k]? = w.heap[k]?
theorem ChgL.refl (g : Nat) (rv : Value) (w : World) : ChgL g rv w w := ⟨rfl, rfl, rfl, Nat.le_refl _, fun _ _ _ _ => rfl⟩
theorem ChgL.of_below {g : Nat} {rv : Value} {w w' : World} (h : Below w.heap.size w w') : ChgL g rv w w' := ⟨h.os, h.tape, h.output, h.size, fun k hk _ _ => h.block k hk⟩
theorem ChgL.of_chg {g : Nat} {rv : Value} {w w' : World} (h : Chg g w w') : ChgL g rv w w' := ⟨h.os, h.tape, h.output, h.size, fun k hk hg _ => h.block k hk hg⟩
theorem ChgL.of_grown {g : Nat} {rv : Value} {w w' : World} (h : w.grownBy w' rv.ownBlock) : ChgL g rv w w' := ⟨h.os, h.tape, h.output, h.size, fun k hk _ hr => h.block k hk (fun e => hr e.symm)⟩
/-- The row rv' is rv's block, or one that is newer than n. -/
def Fresh (n : Nat) (rv rv' : Value) : Prop := rv'.ownBlock = none ∨ rv'.ownBlock = rv.ownBlock ∨ ∃ b, rv'.ownBlock = some b ∧ n ≤ b
theorem Fresh.refl (n : Nat) (rv : Value) : Fresh n rv rv := .inr (.inl rfl)
theorem ChgL.trans {g : Nat} {rv rv' : Value} {a b c : World} (h : ChgL g rv a b) (f : Fresh a.heap.size rv rv') (k : ChgL g rv' b c) : ChgL g rv a c :=
  ⟨k.os.trans h.os, k.tape.trans h.tape, k.output.trans h.output, Nat.le_trans h.size k.size, fun i hi hg hr => (k.block i (Nat.lt_of_lt_of_le hi h.size) hg (by
    intro e
    rcases f with f | f | ⟨x, f, hx⟩
    · rw [f] at e; cases e
    · rw [f] at e; exact hr e
    · rw [f] at e; injection e with e; omega)).trans (h.block i hi hg hr)⟩
theorem Fresh.trans {n m : Nat} {a b c : Value} (h : Fresh n a b) (k : Fresh m b c) (hm : n ≤ m) : Fresh n a c := by
  rcases k with k | k | ⟨x, k, hx⟩
  · exact .inl k
  · rcases h with h | h | ⟨y, h, hy⟩
    · exact .inl (k.trans h)
    · exact .inr (.inl (k.trans h))
    · exact .inr (.inr ⟨y, k.trans h, hy⟩)
  · exact .inr (.inr ⟨x, k, by omega⟩)
theorem ChgL.below {g B : Nat} {rv : Value} {w w' : World} (h : ChgL g rv w w') (hg : B ≤ g) (hr : ∀ k, rv.ownBlock = some k → B ≤ k) (hB : B ≤ w.heap.size) : Below B w w' :=
  ⟨h.os, h.tape, h.output, h.size, fun k hk => h.block k (by omega) (by omega) (fun e => by have := hr k e; omega)⟩
theorem row_ge {B : Nat} {w : World} {rv : Value} {e : TypeId} {n sz : Nat} {xs : List Value} (h : w.ownsRow B e sz rv n xs) : ∀ k, rv.ownBlock = some k → B ≤ k := by
  intro k hk
  rcases h.2 with ⟨rfl, _⟩ | ⟨g, cap, cur, rfl, hg, _⟩
  · cases hk
  · injection hk with hk; exact hk ▸ hg
theorem RowB.ge {B : Nat} {w : World} {rv : Value} {r : List (List Int)} (h : RowB B w rv r) : ∀ k, rv.ownBlock = some k → B ≤ k := by
  obtain ⟨ps, _, h, _⟩ := h; exact row_ge h
theorem row_lt {B : Nat} {w : World} {rv : Value} {e : TypeId} {n sz : Nat} {xs : List Value} (h : w.ownsRow B e sz rv n xs) : ∀ k, rv.ownBlock = some k → k < w.heap.size ∧ ∃ cs, w.heap[k]? = some (.cells cs e (0, 0)) := by
  intro k hk
  rcases h.2 with ⟨rfl, _⟩ | ⟨g, cap, cur, rfl, hg, hh, _⟩
  · cases hk
  · injection hk with hk; subst hk; exact ⟨blk_lt hh, cur, hh⟩
theorem own_to {w w1 : World} {B : Nat} {e : TypeId} {sz n : Nat} {v : Value} {xs : List Value} (h : w.ownsRow B e sz v n xs) (hm : ∀ k, v.ownBlock = some k → w1.heap[k]? = w.heap[k]?) : w1.ownsRow B e sz v n xs := by
  obtain ⟨h1, h2⟩ := h
  refine ⟨h1, ?_⟩
  rcases h2 with h2 | ⟨g, cap, cur, rfl, hg, hh, r⟩
  · exact .inl h2
  · exact .inr ⟨g, cap, cur, rfl, hg, (hm g rfl).trans hh, r⟩
theorem own_below' {w w1 : World} {B : Nat} {e : TypeId} {sz n : Nat} {v : Value} {xs : List Value} (h : w.ownsRow B e sz v n xs) (hb : Below w.heap.size w w1) : w1.ownsRow B e sz v n xs :=
  own_to h fun k hk => hb.block k (row_lt h k hk).1
/-- A row of bytes stays when only a line and its row turn. -/
theorem OwnB.keep {B g : Nat} {rv v : Value} {w w1 : World} {l : List Int} {cs : Array Value} {ps : List Value} {n C : Nat} (h : OwnB B w v l) (hg : w.heap[g]? = some (.cells cs 47 (0, 0))) (hr : w.ownsRow C 27 1 rv n ps) (hc : ChgL g rv w w1) : OwnB B w1 v l := by
  refine own_to h fun k hk => ?_
  obtain ⟨hk1, cs1, hk2⟩ := row_lt h k hk
  refine hc.block k hk1 ?_ ?_
  · rintro rfl; rw [hk2] at hg; injection hg with hg; injection hg with _ e; exact absurd e (by decide)
  · intro e
    obtain ⟨_, cs2, h2⟩ := row_lt hr k e
    rw [hk2] at h2; injection h2 with h2; injection h2 with _ e; exact absurd e (by decide)
theorem RowB.below {B : Nat} {w w1 : World} {rv : Value} {r : List (List Int)} (h : RowB B w rv r) (hb : Below w.heap.size w w1) : RowB B w1 rv r := by
  obtain ⟨ps, h1, h2, h3⟩ := h
  exact ⟨ps, h1, own_below' h2 hb, fun p hp => own_below' (h3 p hp) hb⟩
theorem HeldB.below {B : Nat} {w w1 : World} {hv : Value} {o : Option (List Int)} (h : HeldB B w hv o) (hb : Below w.heap.size w w1) : HeldB B w1 hv o := by
  cases o with
  | none => exact h
  | some l => exact ⟨h.1, own_below' h.2 hb⟩
theorem IsLn.below {B g : Nat} {w w1 : World} {rv : Value} {s : LS} (h : IsLn B w g rv s) (hb : Below w.heap.size w w1) : IsLn B w1 g rv s := by
  obtain ⟨hv, h1, h2, h3, h4⟩ := h
  exact ⟨hv, blk_below h1 hb, h2, h3.below hb, h4.below hb⟩
theorem IsLn.lt {B g : Nat} {w : World} {rv : Value} {s : LS} (h : IsLn B w g rv s) : g < w.heap.size := by obtain ⟨hv, h1, _⟩ := h; exact blk_lt h1
theorem IsLn.ge {B g : Nat} {w : World} {rv : Value} {s : LS} (h : IsLn B w g rv s) : B ≤ g ∧ ∀ k, rv.ownBlock = some k → B ≤ k := by obtain ⟨hv, h1, h2, h3, _⟩ := h; exact ⟨h2, h3.ge⟩
theorem IsLn.chg_below {B g : Nat} {w w1 : World} {rv : Value} {s : LS} (h : IsLn B w g rv s) (hc : ChgL g rv w w1) (hB : B ≤ w.heap.size) : Below B w w1 := hc.below h.ge.1 h.ge.2 hB
/-- What lies for itself beside the line stays. -/
theorem IsLn.keep {B C g : Nat} {w w1 : World} {rv v : Value} {s : LS} {l : List Int} (h : IsLn B w g rv s) (hc : ChgL g rv w w1) (ho : OwnB C w v l) : OwnB C w1 v l := by
  obtain ⟨hv, h1, _, ⟨ps, _, h3, _⟩, _⟩ := h
  exact ho.keep h1 h3 hc
theorem RowB.slice {B : Nat} {w : World} {rv : Value} {r : List (List Int)} (h : RowB B w rv r) : ∃ A c, rv = .slice A r.length c := by
  obtain ⟨ps, h1, h2, _⟩ := h
  have hl : r.length = ps.length := by rw [h1]; simp
  rcases h2.2 with ⟨rfl, h0⟩ | ⟨g, cap, cur, rfl, _⟩
  · exact ⟨none, 0, by rw [hl, h0]⟩
  · exact ⟨_, _, by rw [hl]⟩
theorem HeldB.slice {B : Nat} {w : World} {hv : Value} {o : Option (List Int)} (h : HeldB B w hv o) : ∃ A c, hv = .slice A (o.getD []).length c ∧ (o.isSome = A.isSome) := by
  cases o with
  | none => exact ⟨none, 0, h, rfl⟩
  | some l =>
    rcases h.2.2 with ⟨rfl, h0⟩ | ⟨g, cap, cur, rfl, _⟩
    · have := h.1; omega
    · exact ⟨_, _, rfl, rfl⟩
theorem row_slice {B : Nat} {w : World} {rv : Value} {e : TypeId} {n sz : Nat} {xs : List Value} (h : w.ownsRow B e sz rv n xs) : ∃ A c, rv = .slice A n c := by
  rcases h.2 with ⟨rfl, rfl⟩ | ⟨g, cap, cur, rfl, _⟩
  · exact ⟨none, 0, rfl⟩
  · exact ⟨_, _, rfl⟩
theorem grown_line {W w1 : World} {g C n : Nat} {rv : Value} {cs : Array Value} {ps : List Value} (h : W.heap[g]? = some (.cells cs 47 (0, 0))) (hr : W.ownsRow C 27 1 rv n ps) (hg : W.grownBy w1 rv.ownBlock) : w1.heap[g]? = some (.cells cs 47 (0, 0)) := by
  refine (hg.block g (blk_lt h) ?_).trans h
  intro e
  obtain ⟨_, cs2, h2⟩ := row_lt hr g e.symm
  rw [h] at h2; injection h2 with h2; injection h2 with _ e; exact absurd e (by decide)
set_option maxHeartbeats 1000000 in
set_option maxRecDepth 100000 in
theorem newL_any (B : Nat) (w : World) (hB : B ≤ w.heap.size) :
    Calls Try.prog 8 #[] w (fun e w' => ∃ g, e = .returned (.pointer (some ⟨g, 0, none⟩)) ∧ IsLn B w' g (.slice none 0 0) ⟨0, 0, [], none⟩ ∧ w.heap.size ≤ g ∧ Below w.heap.size w w') := by
  go_enter Try.func8, Try.ntmps8
  go_wp2
  go_ret
  exact ⟨_, rfl, ⟨_, heap_alloc_new w _, hB, ⟨[], rfl, own_nil _ _ _ _, fun p hp => by simp at hp⟩, rfl⟩, Nat.le_refl _, below_alloc (Below.refl _ _) _⟩
set_option maxHeartbeats 1000000 in
set_option maxRecDepth 100000 in
theorem heldL_any (B g : Nat) (rv : Value) (s : LS) (w : World) (hs : IsLn B w g rv s) :
    Calls Try.prog 14 #[.pointer (some ⟨g, 0, none⟩)] w (BoolPost s.h.isSome w) := by
  obtain ⟨hv, h1, _, h3, h4⟩ := hs
  obtain ⟨A, c, rfl, hA⟩ := h4.slice
  have g3 := blk_cell h1 3
  simp only [List.getElem?_toArray, List.getElem?_cons_zero, List.getElem?_cons_succ] at g3
  generalize (s.h.getD []).length = m at g3
  rw [hA]
  clear h1 h3 h4 hA
  have hk := fun (W : World) => Lib.run_eql_slice_nil (P := Try.prog) W 27 5 A m c 0 0 Try.underlying27
  cases A
  all_goals
    go_enter Try.func14, Try.ntmps14
    go_wp2
    go_ret
    exact ⟨rfl, rfl⟩
theorem own_line {w w1 : World} {B g : Nat} {e : TypeId} {sz n : Nat} {v : Value} {xs : List Value} {cs : Array Value} (h : w.ownsRow B e sz v n xs) (hg : w.heap[g]? = some (.cells cs 47 (0, 0))) (he : e ≠ 47) (hc : Chg g w w1) : w1.ownsRow B e sz v n xs := own_chg h hg he hc
theorem RowB.line {B g : Nat} {w w1 : World} {rv : Value} {r : List (List Int)} {cs : Array Value} (h : RowB B w rv r) (hg : w.heap[g]? = some (.cells cs 47 (0, 0))) (hc : Chg g w w1) : RowB B w1 rv r := by
  obtain ⟨ps, h1, h2, h3⟩ := h
  exact ⟨ps, h1, own_line h2 hg (by decide) hc, fun p hp => own_line (h3 p hp) hg (by decide) hc⟩
theorem HeldB.line {B g : Nat} {w w1 : World} {hv : Value} {o : Option (List Int)} {cs : Array Value} (h : HeldB B w hv o) (hg : w.heap[g]? = some (.cells cs 47 (0, 0))) (hc : Chg g w w1) : HeldB B w1 hv o := by
  cases o with
  | none => exact h
  | some l => exact ⟨h.1, own_line h.2 hg (by decide) hc⟩
set_option maxHeartbeats 1000000 in
set_option maxRecDepth 100000 in
theorem faultL_any (B g : Nat) (rv : Value) (s : LS) (k a : Int) (w : World) (hs : IsLn B w g rv s) :
    Calls Try.prog 9 #[.pointer (some ⟨g, 0, none⟩), .int .i64 k, .int .i64 a] w (fun e w' => e = .returned (.bool (decide (1 ≤ k ∧ k ≤ 4))) ∧ IsLn B w' g rv (if 1 ≤ k ∧ k ≤ 4 then { s with k := k, a := a } else s) ∧ Chg g w w') := by
  have HS := Aside0.mk hs
  obtain ⟨hv, h1, hB, h3, h4⟩ := hs
  have f0 := blk_frozen h1 0
  have f1 := blk_frozen h1 1
  have g0 := blk_cell h1 0
  have g1 := blk_cell h1 1
  have H1 := Aside0.mk h1
  have H3 := Aside0.mk h3
  have H4 := Aside0.mk h4
  simp only [List.getElem?_toArray, List.getElem?_cons_zero, List.getElem?_cons_succ] at g0 g1
  clear h1 h3 h4
  by_cases h : 1 ≤ k ∧ k ≤ 4
  · rw [if_pos h, decide_eq_true h]
    have h1 := h.1
    have h2 := h.2
    go_enter Try.func9, Try.ntmps9
    go_wp2
    go_ret
    have hc : Chg g w ((w.setCell ⟨g, 0, none⟩ (.int .i64 k)).setCell ⟨g, 1, none⟩ (.int .i64 a)) := ((Chg.refl g w).set 0 _).set 1 _
    refine ⟨rfl, ⟨hv, ?_, hB, H3.out.line H1.out hc, H4.out.line H1.out hc⟩, hc⟩
    have hh := blk_set (blk_set H1.out 0 (.int .i64 k)) 1 (.int .i64 a)
    simpa using hh
  · rw [if_neg h, decide_eq_false h]
    have h' : k < 1 ∨ 4 < k := by omega
    go_enter Try.func9, Try.ntmps9
    rcases h' with h' | h'
    all_goals
      go_wp2
      go_ret
      exact ⟨rfl, HS.out, Chg.refl _ _⟩
set_option maxHeartbeats 1000000 in
set_option maxRecDepth 100000 in
theorem takeL_any (B g : Nat) (rv : Value) (s : LS) (w : World) (hs : IsLn B w g rv s) :
    Calls Try.prog 11 #[.pointer (some ⟨g, 0, none⟩)] w (fun e w' => e = .returned rv ∧ RowB B w' rv s.r ∧ IsLn B w' g (.slice none 0 0) { s with r := [] } ∧ Chg g w w') := by
  have HS := Aside0.mk hs
  obtain ⟨hv, h1, hB, h3, h4⟩ := hs
  obtain ⟨Ar, cr, rfl⟩ := h3.slice
  obtain ⟨Ah, ch, rfl, hAh⟩ := h4.slice
  have f0 := blk_frozen h1 0
  have f1 := blk_frozen h1 1
  have f2 := blk_frozen h1 2
  have f3 := blk_frozen h1 3
  have g0 := blk_cell h1 0
  have g1 := blk_cell h1 1
  have g2 := blk_cell h1 2
  have g3 := blk_cell h1 3
  have H1 := Aside0.mk h1
  have H3 := Aside0.mk h3
  have H4 := Aside0.mk h4
  simp only [List.getElem?_toArray, List.getElem?_cons_zero, List.getElem?_cons_succ] at g0 g1 g2 g3
  clear h1 h3 h4
  go_enter Try.func11, Try.ntmps11
  go_wp2
  go_ret
  have hc : Chg g w (w.setCell ⟨g, 2, none⟩ (.slice none 0 0)) := (Chg.refl g w).set 2 _
  refine ⟨rfl, H3.out.line H1.out hc, ⟨_, ?_, hB, ⟨[], rfl, own_nil _ _ _ _, fun p hp => by simp at hp⟩, H4.out.line H1.out hc⟩, hc⟩
  have hh := blk_set H1.out 2 (.slice none 0 0)
  simpa using hh
set_option maxHeartbeats 1000000 in
set_option maxRecDepth 100000 in
theorem dropL_any (B g : Nat) (rv : Value) (s : LS) (w : World) (hs : IsLn B w g rv s) :
    Calls Try.prog 21 #[.pointer (some ⟨g, 0, none⟩)] w (fun e w' => e = .returned (.tuple #[]) ∧ IsLn B w' g (.slice none 0 0) ⟨0, 0, [], none⟩ ∧ Chg g w w') := by
  have HS := Aside0.mk hs
  obtain ⟨hv, h1, hB, h3, h4⟩ := hs
  obtain ⟨Ar, cr, rfl⟩ := h3.slice
  obtain ⟨Ah, ch, rfl, hAh⟩ := h4.slice
  have f0 := blk_frozen h1 0
  have f1 := blk_frozen h1 1
  have f2 := blk_frozen h1 2
  have f3 := blk_frozen h1 3
  have g0 := blk_cell h1 0
  have g1 := blk_cell h1 1
  have g2 := blk_cell h1 2
  have g3 := blk_cell h1 3
  have H1 := Aside0.mk h1
  have H3 := Aside0.mk h3
  have H4 := Aside0.mk h4
  simp only [List.getElem?_toArray, List.getElem?_cons_zero, List.getElem?_cons_succ] at g0 g1 g2 g3
  clear h1 h3 h4
  go_enter Try.func21, Try.ntmps21
  go_wp2
  go_end0
  have hc : Chg g w ((((w.setCell ⟨g, 0, none⟩ (.int .i64 0)).setCell ⟨g, 1, none⟩ (.int .i64 0)).setCell ⟨g, 2, none⟩ (.slice none 0 0)).setCell ⟨g, 3, none⟩ (.slice none 0 0)) := ((((Chg.refl g w).set 0 _).set 1 _).set 2 _).set 3 _
  exact ⟨rfl, ⟨_, set_four H1.out _ _ _ _, hB, ⟨[], rfl, own_nil _ _ _ _, fun p hp => by simp at hp⟩, rfl⟩, hc⟩
theorem pushed {B g n : Nat} {w w1 : World} {rv rv1 v : Value} {l : List Int} {cs : Array Value} {ps : List (Value × List Int)} (hg : w.heap[g]? = some (.cells cs 47 (0, 0))) (ho : w.ownsRow B 27 1 rv ps.length (ps.map (·.1))) (hall : ∀ p ∈ ps, OwnB B w p.1 p.2) (hv : OwnB B w v l)
    (hgr : w.grownBy w1 rv.ownBlock) (ho1 : w1.ownsRow B 27 1 rv1 n (ps.map (·.1) ++ [v])) (hat : rv1.ownBlock = rv.ownBlock ∨ ∃ b, rv1.ownBlock = some b ∧ w.heap.size ≤ b) :
    RowB B w1 rv1 (ps.map (·.2) ++ [l]) ∧ ChgL g rv w w1 ∧ Fresh w.heap.size rv rv1 := by
  have hc : ChgL g rv w w1 := ChgL.of_grown hgr
  have hn : n = (ps ++ [(v, l)]).length := by have := ho1.1; simp at this ⊢; omega
  refine ⟨⟨ps ++ [(v, l)], by simp, by rw [← hn]; simpa using ho1, fun p hp => ?_⟩, hc, .inr hat⟩
  rcases List.mem_append.1 hp with hp | hp
  · exact (hall p hp).keep hg ho hc
  · rw [List.mem_singleton.1 hp]; exact hv.keep hg ho hc
def freeS (s : LS) : LS := match s.h with | none => s | some l => { s with r := s.r ++ [l], h := none }
def FreePost (B g : Nat) (rv : Value) (s : LS) (w : World) (e : Ending) (w' : World) : Prop := e = .returned (.tuple #[]) ∧ ∃ rv', IsLn B w' g rv' s ∧ ChgL g rv w w' ∧ Fresh w.heap.size rv rv'
theorem info_sl : (Try.prog.info? 27).map (fun i => (i.zero, i.size, i.bytes)) = some (some (.slice none 0 0), 1, 24) := by kernel_rfl
set_option maxHeartbeats 1000000 in
set_option maxRecDepth 100000 in
theorem freeL_none (B g : Nat) (rv : Value) (s : LS) (w : World) (hs : IsLn B w g rv s) (hh : s.h = none) :
    Calls Try.prog 24 #[.pointer (some ⟨g, 0, none⟩)] w (FreePost B g rv s w) := by
  have HS := Aside0.mk hs
  obtain ⟨hv, h1, hB, h3, h4⟩ := hs
  obtain ⟨Ar, cr, rfl⟩ := h3.slice
  obtain ⟨Ah, ch, rfl, hAh⟩ := h4.slice
  have f0 := blk_frozen h1 0
  have f1 := blk_frozen h1 1
  have f2 := blk_frozen h1 2
  have f3 := blk_frozen h1 3
  have g0 := blk_cell h1 0
  have g1 := blk_cell h1 1
  have g2 := blk_cell h1 2
  have g3 := blk_cell h1 3
  have H1 := Aside0.mk h1
  have H3 := Aside0.mk h3
  have H4 := Aside0.mk h4
  simp only [List.getElem?_toArray, List.getElem?_cons_zero, List.getElem?_cons_succ] at g0 g1 g2 g3
  clear h1 h3 h4
  rw [hh] at hAh g3
  obtain rfl : Ah = none := by cases Ah <;> simp_all
  have hk := fun (W : World) => Lib.run_eql_slice_nil (P := Try.prog) W 27 5 none (Option.getD (none : Option (List Int)) []).length ch 0 0 Try.underlying27
  go_enter Try.func24, Try.ntmps24
  go_wp2
  go_end0
  exact ⟨rfl, _, HS.out, ChgL.refl _ _ _, Fresh.refl _ _⟩
set_option maxHeartbeats 1000000 in
set_option maxRecDepth 100000 in
theorem freeL_some (B g : Nat) (rv : Value) (s : LS) (l : List Int) (w : World) (hs : IsLn B w g rv s) (hh : s.h = some l) (hl : s.r.length ≤ 1000000) (hBw : B ≤ w.heap.size) :
    Calls Try.prog 24 #[.pointer (some ⟨g, 0, none⟩)] w (FreePost B g rv { s with r := s.r ++ [l], h := none } w) := by
  have HS := Aside0.mk hs
  obtain ⟨hv, h1, hB, h3, h4⟩ := hs
  obtain ⟨Ar, cr, rfl⟩ := h3.slice
  obtain ⟨Ah, ch, rfl, hAh⟩ := h4.slice
  have f0 := blk_frozen h1 0
  have f1 := blk_frozen h1 1
  have f2 := blk_frozen h1 2
  have f3 := blk_frozen h1 3
  have g0 := blk_cell h1 0
  have g1 := blk_cell h1 1
  have g2 := blk_cell h1 2
  have g3 := blk_cell h1 3
  have H1 := Aside0.mk h1
  have H3 := Aside0.mk h3
  have H4 := Aside0.mk h4
  simp only [List.getElem?_toArray, List.getElem?_cons_zero, List.getElem?_cons_succ] at g0 g1 g2 g3
  clear h1 h3 h4
  rw [hh] at hAh g3
  obtain ⟨a, rfl⟩ : ∃ a, Ah = some a := by cases Ah <;> simp_all
  have hk := fun (W : World) => Lib.run_eql_slice_nil (P := Try.prog) W 27 5 (some a) (Option.getD (some l) []).length ch 0 0 Try.underlying27
  go_enter Try.func24, Try.ntmps24
  obtain ⟨ps, hps, hrow, hall⟩ := H3.out
  have hpl : s.r.length = ps.length := by rw [hps]; simp
  have HO := Aside0.mk (show w.ownsRow B 27 1 (.slice Ar s.r.length cr) ps.length (ps.map (·.1)) from hrow)
  have HAll := Aside0.mk hall
  have HPS := Aside0.mk hps
  have HPL := Aside0.mk hpl
  have hl2 : ps.length ≤ 1000000 := by omega
  have gA2 : ∀ o, (w.alloc o).cell? ⟨g, 2, none⟩ = some (.slice Ar s.r.length cr) := fun o => pw_cell_below (below_alloc (Below.refl _ _) _) g2
  clear hrow hall hps hpl
  go_wp2
  go_region_law ((refine step_append_cells (w0 := w) (W := w.drew) B (by rfl) (.tmp 11) (.tmp 16) 22 27 (.slice none 0 0) 1 24 rfl Try.underlying22 info_sl rfl (by omega) (by omega) (.slice Ar s.r.length cr) ps.length (ps.map (·.1)) [.slice (some a) l.length ch] rfl rfl rfl (by simp [Value.oneCell']) (show w.drew.ownsRow B 27 1 _ ps.length (ps.map (·.1)) from HO.out) (below_drew (Below.refl _ _)) hBw (by omega) ?_); intro v1 w1 ho hb hg hat; obtain ⟨Av, cv, rfl⟩ := row_slice ho; have hG1 := grown_line (show w.drew.heap[g]? = _ from H1.out) (show w.drew.ownsRow B 27 1 _ ps.length (ps.map (·.1)) from HO.out) hg; have q2 := blk_cell hG1 2; have q3 := blk_cell hG1 3; have qf2 := blk_frozen hG1 2; have qf3 := blk_frozen hG1 3; simp only [List.getElem?_toArray, List.getElem?_cons_zero, List.getElem?_cons_succ] at q2 q3; have HG1 := Aside0.mk hG1; have HO1 := Aside0.mk ho; have HB1 := Aside0.mk hb; have HGr := Aside0.mk hg; have HAt := Aside0.mk hat; clear hG1 ho hb hg hat)
  go_wp2
  all_goals
    go_end0
    have hv' : OwnB B w (.slice (some a) (s.h.getD []).length ch) l := by have h := H4.out; rw [hh] at h ⊢; exact h.2
    rw [hh] at hv'
    obtain ⟨hr1, hc1, hfr⟩ := pushed H1.out HO.out HAll.out hv' (show w.grownBy w1 _ from ⟨HGr.out.os, HGr.out.tape, HGr.out.output, HGr.out.size, HGr.out.block⟩) HO1.out HAt.out
    have hcg : Chg g w1 ((w1.setCell ⟨g, 2, none⟩ (.slice Av (ps.length + 1) cv)).setCell ⟨g, 3, none⟩ (.slice none 0 0)) := ((Chg.refl g w1).set 2 _).set 3 _
    refine ⟨rfl, _, ⟨.slice none 0 0, ?_, hB, ?_, rfl⟩, hc1.trans hfr (ChgL.of_chg hcg), hfr⟩
    · have hx := blk_set (blk_set HG1.out 2 (.slice Av (ps.length + 1) cv)) 3 (.slice none 0 0)
      simpa using hx
    · show RowB B _ _ (s.r ++ [l])
      rw [HPS.out]
      exact hr1.line HG1.out hcg
end Go.Proofs.Ythdjlhhdjanocaa
