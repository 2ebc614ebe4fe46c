/- The line that fails: what the chapter's examples fix. No condition. -/
import Derived.Test.YthdjlhhdjanocaaLnE
namespace Go.Proofs.Ythdjlhhdjanocaa
open Go.RowKit Go.Proofs.YthdjlhhdjanocaaW.PrintWords
set_option linter.unusedVariables false
theorem ChgL.chg {g : Nat} {w w' : World} (h : ChgL g (.slice none 0 0) w w') : Chg g w w' := ⟨h.os, h.tape, h.output, h.size, fun k hk hg => h.block k hk hg (by simp [Value.ownBlock])⟩
theorem lit1 {w w1 : World} {x : Int} {t : TypeId} (hb : Below (w.alloc (.cells #[.int .u8 x] t)).heap.size (w.alloc (.cells #[.int .u8 x] t)) w1) : ReadsInt w1 .u8 (some ⟨w.heap.size, 0, none⟩) 1 [x] :=
  reads_block (blk_below (heap_alloc_new w _) hb) rfl rfl (by decide)
theorem lit1' (w : World) (x : Int) (t : TypeId) : ReadsInt (w.alloc (.cells #[.int .u8 x] t)) .u8 (some ⟨w.heap.size, 0, none⟩) 1 [x] := lit1 (Below.refl _ _)
set_option maxHeartbeats 4000000 in
set_option maxRecDepth 100000 in
theorem firstL_any (w : World) : Calls Try.prog 7 #[] w (fun e w' => e = .returned (.bool true) ∧ Below w.heap.size w w') := by
  go_enter Try.func7, Try.ntmps7
  go_wp2_with fail
  (with_reducible refine (newL_any w.heap.size w (Nat.le_refl _)).mono ?_)
  rintro _ w1 ⟨g, rfl, hs1, hg1, hb1⟩
  go_wp2_with fail
  (with_reducible refine (faultL_any w.heap.size g _ _ 4 0 _ hs1).mono ?_)
  rintro _ w2 ⟨rfl, hs2, hc2⟩
  have HB2 := Aside0.mk (hb1.trans (hc2.below hg1 hb1.size))
  have HS2 := Aside0.mk (IsLn.below (s := ⟨4, 0, [], none⟩) hs2 (below_alloc (Below.refl _ _) (.cells #[.int .u8 1] 5)))
  have hw2 := HB2.out.size
  clear hs1 hb1 hs2 hc2
  have HBa := Aside0.mk (below_alloc HB2.out (.cells #[.int .u8 1] 5))
  go_wp2_with fail
  (with_reducible refine (putL_any w.heap.size g _ _ _ 1 1 [1] _ HS2.out (lit1' _ _ _) (by decide) (by decide) (HBa.out.size)).mono ?_)
  rintro _ w3 ⟨rfl, rv3, hs3, hc3, hf3⟩
  have HB3 := Aside0.mk (HBa.out.trans (HS2.out.chg_below hc3 HBa.out.size))
  have HS3 := Aside0.mk (IsLn.below (s := ⟨0, 0, [], some [1]⟩) hs3 (below_alloc (Below.refl _ _) (.cells #[.int .u8 2] 5)))
  clear hs3 hc3 hf3
  have HBb := Aside0.mk (below_alloc HB3.out (.cells #[.int .u8 2] 5))
  go_wp2_with fail
  (with_reducible refine (putL_any w.heap.size g _ _ _ 1 1 [2] _ HS3.out (lit1' _ _ _) (by decide) (by decide) (HBb.out.size)).mono ?_)
  rintro _ w4 ⟨rfl, rv4, hs4, hc4, hf4⟩
  have HB4 := Aside0.mk (HBb.out.trans (HS3.out.chg_below hc4 HBb.out.size))
  have HS4 := Aside0.mk (show IsLn w.heap.size w4 g rv4 ⟨0, 0, [[2], [1]], none⟩ from hs4)
  clear hs4 hc4 hf4
  go_wp2_with fail
  (with_reducible refine (takeL_any w.heap.size g _ _ _ HS4.out).mono ?_)
  rintro _ w5 ⟨rfl, hr5, hs5, hc5⟩
  have HB5 := Aside0.mk (HB4.out.trans (hc5.below hg1 HB4.out.size))
  clear hc5
  go_wp2_with fail
  (with_reducible refine (faultL_any w.heap.size g _ _ 1 0 _ hs5).mono ?_)
  rintro _ w6 ⟨rfl, hs6, hc6⟩
  obtain ⟨hvx, t5, _⟩ := hs5
  have hr6 := RowB.line hr5 t5 hc6
  have HB6 := Aside0.mk (HB5.out.trans (hc6.below hg1 HB5.out.size))
  have HS6 := Aside0.mk (IsLn.below (s := ⟨1, 0, [], none⟩) hs6 (below_alloc (Below.refl _ _) (.cells #[.int .u8 1] 5)))
  have HR6 := Aside0.mk (hr6.below (below_alloc (Below.refl _ _) (.cells #[.int .u8 1] 5)))
  clear hs6 hc6 hr5 hr6 t5
  have HBc := Aside0.mk (below_alloc HB6.out (.cells #[.int .u8 1] 5))
  go_wp2_with fail
  (with_reducible refine (putL_any w.heap.size g _ _ _ 1 1 [1] _ HS6.out (lit1' _ _ _) (by decide) (by decide) (HBc.out.size)).mono ?_)
  rintro _ w7 ⟨rfl, rv7, hs7, hc7, hf7⟩
  have HB7 := Aside0.mk (HBc.out.trans (HS6.out.chg_below hc7 HBc.out.size))
  have hr7 : RowB w.heap.size w7 rv4 [[2], [1]] := by
    obtain ⟨hvy, t6, _⟩ := HS6.out
    exact HR6.out.line t6 hc7.chg
  have HS7 := Aside0.mk (show IsLn w.heap.size w7 g rv7 ⟨0, 0, [], none⟩ from hs7)
  clear hs7 hc7 hf7
  go_wp2_with fail
  (with_reducible refine (takeL_any w.heap.size g _ _ _ HS7.out).mono ?_)
  rintro _ w8 ⟨rfl, hr8, hs8, hc8⟩
  obtain ⟨hvz, t7, _⟩ := HS7.out
  have hr9 := RowB.line hr7 t7 hc8
  have HB8 := Aside0.mk (HB7.out.trans (hc8.below hg1 HB7.out.size))
  obtain ⟨A8, c8, rfl, _⟩ := hr8.reads
  obtain ⟨A4, c4, rfl, hrd⟩ := hr9.reads
  obtain ⟨ad, B1, k1, rfl, p1, q1⟩ := hrd.get 0 (by decide)
  obtain ⟨ad2, B2, k2, e2, p2, q2⟩ := hrd.get 1 (by decide)
  injection e2 with e2
  subst e2
  have Q1 := Aside0.mk (show ReadsInt w8 .u8 B1 1 [2] from q1)
  have Q2 := Aside0.mk (show ReadsInt w8 .u8 B2 1 [1] from q2)
  have P1 : w8.cell? ad = some (.slice B1 1 k1) := by rw [show ad.add 0 = ad from rfl] at p1; exact p1
  have P3 : ∀ o, (w8.alloc o).cell? ⟨ad.block, ad.off + 1, none⟩ = some (.slice B2 1 k2) := fun o => pw_cell_below (below_alloc (Below.refl _ _) _) (show w8.cell? ⟨ad.block, ad.off + 1, none⟩ = _ from p2)
  have P2 : ∀ o, (w8.alloc o).cell? (ad.add 1) = some (.slice B2 1 k2) := fun o => pw_cell_below (below_alloc (Below.refl _ _) _) p2
  clear hr7 t7 hr8 hr9 hs8 hc8 hrd p1 p2 q1 q2
  have b1 : Bytes [1] := by intro x hx; simp at hx; omega
  have b2 : Bytes [2] := by intro x hx; simp at hx; omega
  go_wp2_with fail
  (with_reducible refine (bytes_same B1 _ 1 1 k1 _ [2] _ (Q1.out.below (below_alloc (Below.refl _ _) _)) (lit1' w8 2 5) b2).mono ?_)
  rintro _ w9 ⟨rfl, rfl⟩
  have m2 : ∀ o1, ReadsInt ((w8.alloc o1).alloc (.cells #[.int .u8 1] 5)) .u8 (some ⟨w8.heap.size + 1, 0, none⟩) 1 [1] := fun o1 => reads_block (heap_two w8 o1 _) rfl rfl (by decide)
  go_wp2_with fail
  (with_reducible refine (bytes_same B2 _ 1 1 k2 _ [1] _ (Q2.out.below (below_alloc (below_alloc (Below.refl _ _) _) _)) (m2 _) b1).mono ?_)
  rintro _ w10 ⟨rfl, rfl⟩
  go_wp2
  go_ret
  exact ⟨rfl, below_alloc (below_alloc HB8.out _) _⟩
end Go.Proofs.Ythdjlhhdjanocaa
