/- Select before operate: the chapter's examples, and the laws over one box. Conditions: the arguments read as data. -/
import Derived.Test.YtoieognhjebcpaaSboA
namespace Go.Proofs.Ytoieognhjebcpaa
open Go.RowKit SboMath Go.Proofs.YtoieognhjebcpaaW.PrintWords
set_option linter.unusedVariables false

theorem reads_nil (w : World) (k : IntKind) (A : Option Addr) : ReadsInt w k A 0 [] := ⟨rfl, by omega, fun h => absurd h (by omega)⟩
theorem reads_block {w : World} {g n : Nat} {k : IntKind} {l : List Int} {t : TypeId} {fr : Nat × Nat} {cs : Array Value} (h : w.heap[g]? = some (.cells cs t fr)) (hc : cs = (nums k l).toArray) (hn : l.length = n) (hm : n ≤ 9223372036854775807) : ReadsInt w k (some ⟨g, 0, none⟩) n l := by
  subst hc
  refine ⟨hn, hm, fun _ => ⟨_, rfl, fun j hj => ?_⟩⟩
  rw [add_plain, cell_of_row w g j _ t fr h]
  simp [nums, List.getElem?_eq_getElem (show j < l.length by omega), List.getD_eq_getElem?_getD]
/-- What the shell tells of a slice of bytes that came in. -/
def InRow (k : IntKind) (w : World) (a : Option Addr) (len cap : Nat) (zs : List Int) : Prop :=
  (a = none ∧ len = 0 ∧ cap = 0 ∧ zs = []) ∨
  ∃ x, a = some x ∧ len ≤ cap ∧ cap ≤ maxLen ∧ zs.length = cap ∧ (∀ i, i < zs.length → w.cell? (x.add i) = some (.int k (zs.getD i 0))) ∧ ∀ n ∈ zs, (Lit.int k n).wf = true
theorem InRow.reads {k : IntKind} {w : World} {a : Option Addr} {len cap : Nat} {zs : List Int} (h : InRow k w a len cap zs) : ReadsInt w k a len (zs.take len) := by
  rcases h with ⟨rfl, rfl, rfl, rfl⟩ | ⟨x, rfl, h1, h2, h3, h4, h5⟩
  · exact reads_nil _ _ _
  · have hm : len ≤ 9223372036854775807 := by unfold maxLen at h2; omega
    refine ⟨by simp; omega, hm, fun _ => ⟨x, rfl, fun j hj => ?_⟩⟩
    rw [h4 j (by omega)]
    simp [List.getD_eq_getElem?_getD, hj]
theorem wf_byte {x : Int} (h : (Lit.int .u8 x).wf = true) : 0 ≤ x ∧ x < 256 := by
  simp [Lit.wf, IntKind.min, IntKind.max, IntKind.bits, IntKind.signed] at h
  omega
theorem wf_int {x : Int} (h : (Lit.int .i64 x).wf = true) : -9223372036854775808 ≤ x ∧ x ≤ 9223372036854775807 := by
  simp [Lit.wf, IntKind.min, IntKind.max, IntKind.bits, IntKind.signed] at h
  omega
theorem InRow.bytes {w : World} {a : Option Addr} {len cap : Nat} {zs : List Int} (h : InRow .u8 w a len cap zs) : Bytes (zs.take len) := by
  rcases h with ⟨rfl, rfl, rfl, rfl⟩ | ⟨x, rfl, h1, h2, h3, h4, h5⟩
  · intro x hx; simp at hx
  · exact fun x hx => wf_byte (h5 x (List.mem_of_mem_take hx))
theorem IsBox.lt {B : Nat} {w : World} {g : Nat} {x : Bx} (h : IsBox B w g x) : g < w.heap.size := by obtain ⟨v, hg, _⟩ := h; exact blk_lt hg
theorem IsBox.ge {B : Nat} {w : World} {g : Nat} {x : Bx} (h : IsBox B w g x) : B ≤ g := by obtain ⟨v, _, _, hB, _⟩ := h; exact hB
theorem IsBox.below {B : Nat} {w w1 : World} {g : Nat} {x : Bx} (h : IsBox B w g x) (hb : Below w.heap.size w w1) : IsBox B w1 g x := by
  obtain ⟨v, hg, hv, r⟩ := h
  exact ⟨v, (hb.block g (blk_lt hg)).trans hg, pw_own_below hv hb, r⟩
/-- What is left alone: another box, when the first one turns. -/
theorem IsBox.other {B : Nat} {w w1 : World} {g g1 : Nat} {x y : Bx} (h : IsBox B w g x) (h1 : IsBox B w g1 y) (hc : Chg g1 w w1) (hne : g ≠ g1) : IsBox B w1 g x := by
  obtain ⟨v, hg, hv, r⟩ := h
  obtain ⟨v1, hg1, _⟩ := h1
  have hvb := own_ne hv hg1 (by decide : (5 : Nat) ≠ 46)
  refine ⟨v, (hc.block g (blk_lt hg) hne).trans hg, ?_, r⟩
  refine ⟨hv.1, ?_⟩
  rcases hv.2 with h0 | ⟨gb, cap, cur, rfl, hb, hh, q⟩
  · exact .inl h0
  · refine .inr ⟨gb, cap, cur, rfl, hb, ?_, q⟩
    rw [hc.block gb (blk_lt hh) (fun e => hvb (by rw [e]; rfl))]; exact hh

theorem v1 : ((Bx.new 5).sel 0 15 [97]).hit 4 0 [97] = true := by decide +kernel
theorem v2 : (((Bx.new 5).sel 0 15 [97]).matched true).hit 4 0 [97] = false := by decide +kernel
theorem v3 : ((((Bx.new 5).sel 0 15 [97]).matched true).matched false |>.sel 0 1 [97]).hit 5 2 [97] = false := by decide +kernel
theorem v4 : (((((Bx.new 5).sel 0 15 [97]).matched true).matched false |>.sel 0 1 [97]).matched false).live 4 = true := by decide +kernel
theorem v5 : (((((Bx.new 5).sel 0 15 [97]).matched true).matched false |>.sel 0 1 [97]).matched false).live 5 = false := by decide +kernel
/-- The bytes of the text "a". -/
def litA (W : World) : World := W.alloc (.cells #[.int .u8 97] 5 (1, 2))
theorem litA_reads (W : World) : ReadsInt (W.alloc (.cells #[.int .u8 97] 5 (1, 2))) .u8 (some ⟨W.heap.size, 0, none⟩) 1 [97] := reads_block (heap_alloc_new W _) rfl rfl (by omega)
theorem litA_below {B : Nat} {w W : World} (h : Below B w W) (hB : B ≤ W.heap.size) : Below B w (W.alloc (.cells #[.int .u8 97] 5 (1, 2))) := h.alloc hB _
theorem bytes_a : Bytes [97] := by intro x hx; simp at hx; omega

set_option maxHeartbeats 4000000 in
set_option maxRecDepth 100000 in
theorem first_any (w : World) : Calls Try.prog 8 #[] w fun e w' => e = .returned (.bool true) ∧ Below w.heap.size w w' := by
  have kc := fun (w : World) (C : Array Value) (n c : Nat) => Lib.run_convert_bytes_const (P := Try.prog) w 22 5 C n c Try.underlying22 Try.underlying5
  go_enter Try.func8, Try.ntmps8
  go_wp2_with fail
  (with_reducible refine (new_any w.heap.size 5 _ (Nat.le_refl _)).mono ?_)
  rintro e w1 ⟨g, rfl, hx, hg, hb⟩
  have X1 := Aside0.mk hx
  have HB1 := Aside0.mk hb
  clear hx hb
  go_wp2_with fail
  (with_reducible refine (select_any w.heap.size g _ 0 15 _ _ _ [97] _ (X1.out.below (litA_below (Below.refl _ _) (Nat.le_refl _))) (litA_reads _) bytes_a (by omega) (litA_below HB1.out HB1.out.size).size).mono ?_)
  rintro e w2 ⟨rfl, hx, hc⟩
  have X2 := Aside0.mk hx
  have HB2 := Aside0.mk (below_chg (litA_below HB1.out HB1.out.size) hc hg)
  clear hx hc X1 HB1
  go_wp2_with fail
  (with_reducible refine (match_any w.heap.size g _ 4 0 _ _ _ [97] _ (X2.out.below (litA_below (Below.refl _ _) (Nat.le_refl _))) (litA_reads _) bytes_a true v1).mono ?_)
  rintro e w3 ⟨rfl, hx, hc⟩
  have X3 := Aside0.mk hx
  have HB3 := Aside0.mk (below_chg (litA_below HB2.out HB2.out.size) hc hg)
  clear hx hc X2 HB2
  go_wp2_with fail
  (with_reducible refine (match_any w.heap.size g _ 4 0 _ _ _ [97] _ (X3.out.below (litA_below (Below.refl _ _) (Nat.le_refl _))) (litA_reads _) bytes_a false v2).mono ?_)
  rintro e w4 ⟨rfl, hx, hc⟩
  have X4 := Aside0.mk hx
  have HB4 := Aside0.mk (below_chg (litA_below HB3.out HB3.out.size) hc hg)
  clear hx hc X3 HB3
  go_wp2_with fail
  (with_reducible refine (select_any w.heap.size g _ 0 1 _ _ _ [97] _ (X4.out.below (litA_below (Below.refl _ _) (Nat.le_refl _))) (litA_reads _) bytes_a (by omega) (litA_below HB4.out HB4.out.size).size).mono ?_)
  rintro e w5 ⟨rfl, hx, hc⟩
  have X5 := Aside0.mk hx
  have HB5 := Aside0.mk (below_chg (litA_below HB4.out HB4.out.size) hc hg)
  clear hx hc X4 HB4
  go_wp2_with fail
  (with_reducible refine (match_any w.heap.size g _ 5 2 _ _ _ [97] _ (X5.out.below (litA_below (Below.refl _ _) (Nat.le_refl _))) (litA_reads _) bytes_a false v3).mono ?_)
  rintro e w6 ⟨rfl, hx, hc⟩
  have X6 := Aside0.mk hx
  have HB6 := Aside0.mk (below_chg (litA_below HB5.out HB5.out.size) hc hg)
  clear hx hc X5 HB5
  go_wp2_with fail
  (with_reducible refine (live_any w.heap.size g _ 4 _ X6.out true v4).mono ?_)
  rintro e w' ⟨rfl, m1, rfl⟩
  go_wp2_with fail
  (with_reducible refine (live_any w.heap.size g _ 5 _ (X6.out.drewN _) false v5).mono ?_)
  rintro e w' ⟨rfl, m2, rfl⟩
  go_wp2
  go_ret
  exact ⟨rfl, pw_below_drewN HB6.out _⟩
end Go.Proofs.Ytoieognhjebcpaa
