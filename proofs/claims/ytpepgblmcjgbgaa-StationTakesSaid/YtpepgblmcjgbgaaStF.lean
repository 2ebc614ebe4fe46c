/- The secondary station: the examples of the chapter. Conditions: none. -/
import Derived.Test.YtpepgblmcjgbgaaStE
namespace Go.Proofs.Ytpepgblmcjgbgaa
open Go.RowKit Go.Proofs.YtpepgblmcjgbgaaW.PrintWords
set_option linter.unusedVariables false
theorem lit_reads {g k n : Nat} {w : World} {l : List Int} {t : TypeId} (h : w.heap[k]? = some (.cells (nums .u8 l).toArray t (0, 0))) (hk : k ≠ g) (hn : l.length = n) (hm : n ≤ 9223372036854775807) : ∀ w1, Chg g w w1 → ReadsInt w1 .u8 (some ⟨k, 0, none⟩) n l :=
  fun w1 hc => reads_block ((hc.block k (blk_lt h) hk).trans h) rfl hn hm
/-- What Take gives, written out. -/
def Took (B g : Nat) (F : Value) (is up : Bool) (x : St) (d : List Int) (w : World) (e : Ending) (w' : World) : Prop :=
  ∃ v, e = .returned (.tuple #[F, .bool is, v, .bool up]) ∧ w'.ownsRow w.heap.size 5 1 v d.length (nums .u8 d) ∧ IsSt B w' g x ∧ Chg g w w'
theorem take_ans (B g : Nat) (s : St) (ctl dest src : Int) (A : Option Addr) (n c : Nat) (l : List Int) (w : World) (x : St) (a : Int) (up : Bool) (ht : tk s ctl dest src = ⟨x, some a, up⟩) (hs : IsSt B w g s) (hr : ∀ w1, Chg g w w1 → ReadsInt w1 .u8 A n l) (hsz : n ≤ 140737488355328) :
    Calls Try.prog 11 #[.pointer (some ⟨g, 0, none⟩), .agg #[.int .i64 ctl, .int .i64 dest, .int .i64 src, .slice A n c]] w (Took B g (.agg #[.int .i64 a, .int .i64 s.master, .int .i64 s.own, .slice none 0 0]) true up x (dat up l) w) := by
  have h := take_any B g s ctl dest src A n c l w hs hr hsz
  rw [ht] at h; exact h
theorem take_no (B g : Nat) (s : St) (ctl dest src : Int) (A : Option Addr) (n c : Nat) (l : List Int) (w : World) (x : St) (up : Bool) (ht : tk s ctl dest src = ⟨x, none, up⟩) (hs : IsSt B w g s) (hr : ∀ w1, Chg g w w1 → ReadsInt w1 .u8 A n l) (hsz : n ≤ 140737488355328) :
    Calls Try.prog 11 #[.pointer (some ⟨g, 0, none⟩), .agg #[.int .i64 ctl, .int .i64 dest, .int .i64 src, .slice A n c]] w (Took B g (.agg #[.int .i64 0, .int .i64 0, .int .i64 0, .slice none 0 0]) false up x (dat up l) w) := by
  have h := take_any B g s ctl dest src A n c l w hs hr hsz
  rw [ht] at h; exact h
theorem to_lit (c : Int) (A : Option Addr) (n k : Nat) (w : World) :
    Calls Try.prog 12 #[.int .i64 c, .slice A n k] w fun e w' => e = .returned (.agg #[.int .i64 c, .int .i64 1, .int .i64 2, .slice A n k]) ∧ Below w.heap.size w w' := to_any c _ A n k w rfl
set_option maxHeartbeats 2000000 in
set_option maxRecDepth 100000 in
theorem first_any (w : World) : Calls Try.prog 9 #[] w (fun e w' => e = .returned (.bool true) ∧ Below w.heap.size w w') := by
  have t1 := Aside0.mk (show tk ⟨1, 2, false, false⟩ 243 1 2 = ⟨⟨1, 2, false, false⟩, some 1, false⟩ from by rfl)
  have t2 := Aside0.mk (show tk ⟨1, 2, false, false⟩ 192 1 2 = ⟨⟨1, 2, true, true⟩, some 0, false⟩ from by rfl)
  have t3 := Aside0.mk (show tk ⟨1, 2, true, true⟩ 243 1 2 = ⟨⟨1, 2, true, false⟩, some 0, true⟩ from by rfl)
  have t4 := Aside0.mk (show tk ⟨1, 2, true, false⟩ 243 1 2 = ⟨⟨1, 2, true, false⟩, some 0, false⟩ from by rfl)
  have t5 := Aside0.mk (show tk ⟨1, 2, true, false⟩ 211 1 2 = ⟨⟨1, 2, true, true⟩, some 0, true⟩ from by rfl)
  go_enter Try.func9, Try.ntmps9
  go_wp2_with fail
  (with_reducible refine (new_any w.heap.size 1 2 w (Nat.le_refl _)).mono ?_)
  rintro _ w1 ⟨g, rfl, hs1, hg1, hb1⟩
  have HS1 := Aside0.mk hs1
  have HB1 := Aside0.mk hb1
  have l1 := hs1.lt
  clear hs1 hb1
  go_wp2_with fail
  (with_reducible refine (to_lit 243 _ 1 1 _).mono ?_)
  rintro _ w2 ⟨rfl, hb2⟩
  have HC2 := Aside0.mk (((Chg.refl g w1).alloc (.cells #[.int .u8 7] 5)).then_below hb2)
  have hr2 := lit_reads (g := g) (n := 1) (l := [7]) (blk_below (heap_alloc_new w1 _) hb2) (by omega) rfl (by decide)
  have hs2 := (HS1.out.below (below_alloc (Below.refl _ _) _)).below hb2
  clear hb2
  go_wp2_with fail
  (with_reducible refine (take_ans _ g _ 243 1 2 _ 1 1 [7] _ _ _ _ t1.out hs2 hr2 (by decide)).mono ?_)
  rintro _ w3 ⟨v3, rfl, ho3, hs3, hc3⟩
  have HC3 := Aside0.mk (HC2.out.trans hc3)
  have HS3 := Aside0.mk hs3
  have l3 := hs3.lt
  clear hs2 hr2 hs3 hc3 ho3
  go_wp2_with fail
  (with_reducible refine (to_lit 192 none 0 0 _).mono ?_)
  rintro _ w4 ⟨rfl, hb4⟩
  have HC4 := Aside0.mk (((Chg.refl g w3).alloc (.cells #[.int .i64 1, .int .i64 2, .int .i64 1, .slice none 0 0] 29)).then_below hb4)
  have HA4 := Aside0.mk (blk_below (heap_alloc_new w3 _) hb4)
  have hs4 := (HS3.out.below (below_alloc (Below.refl _ _) _)).below hb4
  clear hb4
  have hr4 : ∀ w0, Chg g w4 w0 → ReadsInt w0 .u8 none 0 [] := fun w0 _ => reads_nil w0 .u8 none
  go_wp2_with fail
  (with_reducible refine (take_ans _ g _ 192 1 2 _ 0 0 [] _ _ _ _ t2.out hs4 hr4 (by decide)).mono ?_)
  rintro _ w5 ⟨v5, rfl, ho5, hs5, hc5⟩
  have HC5 := Aside0.mk (HC4.out.trans hc5)
  have HA5 := Aside0.mk ((hc5.block w3.heap.size (blk_lt HA4.out) (by omega)).trans HA4.out)
  have HS5 := Aside0.mk hs5
  have l5 := hs5.lt
  clear hs4 hr4 hs5 hc5 ho5
  go_wp2_with fail
  (with_reducible refine (to_lit 243 _ 1 1 _).mono ?_)
  rintro _ w6 ⟨rfl, hb6⟩
  have HC6 := Aside0.mk ((((Chg.refl g w5).alloc (.cells #[.int .i64 0, .int .i64 2, .int .i64 1, .slice none 0 0] 29)).alloc (.cells #[.int .u8 7] 5)).then_below hb6)
  have HD6 := Aside0.mk (blk_below (blk_alloc (heap_alloc_new w5 _) _) hb6)
  have hr6 := lit_reads (g := g) (n := 1) (l := [7]) (blk_below (heap_two w5 _ _) hb6) (by omega) rfl (by decide)
  have hs6 := (HS5.out.below (below_alloc (below_alloc (Below.refl _ _) _) _)).below hb6
  clear hb6
  go_wp2_with fail
  (with_reducible refine (take_ans _ g _ 243 1 2 _ 1 1 [7] _ _ _ _ t3.out hs6 hr6 (by decide)).mono ?_)
  rintro _ w7 ⟨v7, rfl, ho7, hs7, hc7⟩
  have HC7 := Aside0.mk (HC6.out.trans hc7)
  have HD7 := Aside0.mk ((hc7.block w5.heap.size (blk_lt HD6.out) (by omega)).trans HD6.out)
  have HS7 := Aside0.mk hs7
  have HO7 := Aside0.mk ho7
  have l7 := hs7.lt
  clear hs6 hr6 hs7 hc7 ho7
  go_wp2_with fail
  (with_reducible refine (to_lit 243 _ 1 1 _).mono ?_)
  rintro _ w8 ⟨rfl, hb8⟩
  have HC8 := Aside0.mk ((((Chg.refl g w7).alloc (.cells #[.int .i64 0, .int .i64 2, .int .i64 1, .slice none 0 0] 29)).alloc (.cells #[.int .u8 7] 5)).then_below hb8)
  have hr8 := lit_reads (g := g) (n := 1) (l := [7]) (blk_below (heap_two w7 _ _) hb8) (by omega) rfl (by decide)
  have hs8 := (HS7.out.below (below_alloc (below_alloc (Below.refl _ _) _) _)).below hb8
  clear hb8
  go_wp2_with fail
  (with_reducible refine (take_ans _ g _ 243 1 2 _ 1 1 [7] _ _ _ _ t4.out hs8 hr8 (by decide)).mono ?_)
  rintro _ w9 ⟨v9, rfl, ho9, hs9, hc9⟩
  have HC9 := Aside0.mk (HC8.out.trans hc9)
  have HS9 := Aside0.mk hs9
  have l9 := hs9.lt
  clear hs8 hr8 hs9 hc9 ho9
  go_wp2_with fail
  (with_reducible refine (to_lit 211 _ 1 1 _).mono ?_)
  rintro _ wa ⟨rfl, hba⟩
  have HCa := Aside0.mk ((((Chg.refl g w9).alloc (.cells #[.int .i64 0, .int .i64 2, .int .i64 1, .slice none 0 0] 29)).alloc (.cells #[.int .u8 8] 5)).then_below hba)
  have HEa := Aside0.mk (blk_below (blk_alloc (heap_alloc_new w9 _) _) hba)
  have hra := lit_reads (g := g) (n := 1) (l := [8]) (blk_below (heap_two w9 _ _) hba) (by omega) rfl (by decide)
  have hsa := (HS9.out.below (below_alloc (below_alloc (Below.refl _ _) _) _)).below hba
  clear hba
  go_wp2_with fail
  (with_reducible refine (take_ans _ g _ 211 1 2 _ 1 1 [8] _ _ _ _ t5.out hsa hra (by decide)).mono ?_)
  rintro _ wb ⟨vb, rfl, hob, hsb, hcb⟩
  have HCb := Aside0.mk (HCa.out.trans hcb)
  have HOb := Aside0.mk hob
  have HSb := Aside0.mk hsb
  have HEb := Aside0.mk ((hcb.block w9.heap.size (blk_lt HEa.out) (by omega)).trans HEa.out)
  clear hsa hra hsb hcb hob
  have C7b := HC9.out.trans HCb.out
  have C5b := HC7.out.trans C7b
  have hA := (C5b.block w3.heap.size (blk_lt HA5.out) (by omega)).trans HA5.out
  have hD := (C7b.block w5.heap.size (blk_lt HD7.out) (by omega)).trans HD7.out
  have hE := HEb.out
  have kA0 : ∀ o, (wb.alloc o).cell? ⟨w3.heap.size, 0, none⟩ = some (.int .i64 1) := fun o => pw_cell_below (below_alloc (Below.refl _ _) _) (blk_cell hA 0)
  have kD0 : ∀ o, (wb.alloc o).cell? ⟨w5.heap.size, 0, none⟩ = some (.int .i64 0) := fun o => pw_cell_below (below_alloc (Below.refl _ _) _) (blk_cell hD 0)
  have kD1 : ∀ o, (wb.alloc o).cell? ⟨w5.heap.size, 1, none⟩ = some (.int .i64 2) := fun o => pw_cell_below (below_alloc (Below.refl _ _) _) (blk_cell hD 1)
  have kD2 : ∀ o, (wb.alloc o).cell? ⟨w5.heap.size, 2, none⟩ = some (.int .i64 1) := fun o => pw_cell_below (below_alloc (Below.refl _ _) _) (blk_cell hD 2)
  have HEE := Aside0.mk hE
  have HC7b := Aside0.mk C7b
  have HC5b := Aside0.mk C5b
  obtain ⟨A7, n7, rfl, hR7⟩ := own_reads (show wb.ownsRow w6.heap.size 5 1 v7 1 (nums .u8 [7]) from own_chg HO7.out HS7.out.1 (by decide) C7b)
  obtain ⟨Ab, nb, rfl, hRb⟩ := own_reads (show wb.ownsRow wa.heap.size 5 1 vb 1 (nums .u8 [8]) from HOb.out)
  have HR7 := Aside0.mk hR7
  have HRb := Aside0.mk hRb
  have lb := HSb.out.lt
  clear C7b C5b hA hD hE hR7 hRb
  have b7 : Bytes [7] := by intro x hx; simp at hx; omega
  have b8 : Bytes [8] := by intro x hx; simp at hx; omega
  have m7 : ∀ o1, ReadsInt ((wb.alloc o1).alloc (.cells #[.int .u8 7] 5)) .u8 (some ⟨wb.heap.size + 1, 0, none⟩) 1 [7] := fun o1 => reads_block (heap_two wb o1 _) rfl rfl (by decide)
  have kE0 : ∀ o1 o2, ((wb.alloc o1).alloc o2).cell? ⟨w9.heap.size, 0, none⟩ = some (.int .i64 0) := fun o1 o2 => pw_cell_below (below_alloc (below_alloc (Below.refl _ _) _) _) (blk_cell HEE.out 0)
  have m8 : ∀ o1 o2, ReadsInt (((wb.alloc o1).alloc o2).alloc (.cells #[.int .u8 8] 5)) .u8 (some ⟨wb.heap.size + 1 + 1, 0, none⟩) 1 [8] := fun o1 o2 => by
    have h := heap_two (wb.alloc o1) o2 (.cells #[.int .u8 8] 5)
    rw [show (wb.alloc o1).heap.size = wb.heap.size + 1 by simp] at h
    exact reads_block h rfl rfl (by decide)
  go_wp2_with fail
  (with_reducible refine (bytes_same _ _ 1 1 _ _ [7] _ (HR7.out.below (below_alloc (below_alloc (Below.refl _ _) _) _)) (m7 _) b7).mono ?_)
  rintro _ wc ⟨rfl, rfl⟩
  go_wp2_with fail
  (with_reducible refine (bytes_same _ _ 1 1 _ _ [8] _ (HRb.out.below (below_alloc (below_alloc (below_alloc (Below.refl _ _) _) _) _)) (m8 _ _) b8).mono ?_)
  rintro _ wd ⟨rfl, rfl⟩
  go_wp2
  have hw1 : Chg g w1 wb := HC3.out.trans (HC5.out.trans HC5b.out)
  go_ret
  exact ⟨rfl, below_alloc (below_alloc (below_alloc (below_chg HB1.out hw1 hg1) _) _) _⟩
end Go.Proofs.Ytpepgblmcjgbgaa
