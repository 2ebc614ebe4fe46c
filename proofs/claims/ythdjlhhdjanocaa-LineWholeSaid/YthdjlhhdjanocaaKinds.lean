/- The kinds of structs that this seat reads, written by kinds.py out of the translation: each struct as Lean's, its cells, an element of a slice of it. No condition. -/
import Derived.Test.YthdjlhhdjanocaaProg
import Derived.Test.YthdjlhhdjanocaaOpen
namespace Go.Proofs.Ythdjlhhdjanocaa
open Go.RowKit Go.Proofs.YthdjlhhdjanocaaW.PrintWords
set_option linter.unusedVariables false
theorem arr_cells_int {k : IntKind} {n : Nat} {w : World} {xs : List Int} {cs : List Value} {hs : 0 < (Kd.int k).sz} (h : (Kd.arr n (Kd.int k) hs).K w xs cs) : cs = xs.map (.int k) ∧ xs.length = n := by
  obtain ⟨hl, hlen, hr⟩ := h
  refine ⟨?_, hl⟩
  apply List.ext_getElem?
  intro i
  by_cases hi : i < xs.length
  · have h2 := hr i _ (List.getElem?_eq_getElem hi)
    have h3 : (cs.drop (i * 1)).take 1 = [.int k xs[i]] := h2
    have hc : cs.length = xs.length * 1 := hlen
    have h4 : cs[i]? = some (.int k xs[i]) := by
      have := congrArg (fun l => l[0]?) h3
      simpa [List.getElem?_take, List.getElem?_drop] using this
    simp [h4, List.getElem?_eq_getElem hi]
  · have hc : cs.length = xs.length * 1 := hlen
    rw [List.getElem?_eq_none (by omega), List.getElem?_eq_none (by simp; omega)]
theorem arr_cells_bool {n : Nat} {w : World} {xs : List Bool} {cs : List Value} {hs : 0 < Kd.bool.sz} (h : (Kd.arr n Kd.bool hs).K w xs cs) : cs = xs.map .bool ∧ xs.length = n := by
  obtain ⟨hl, hlen, hr⟩ := h
  refine ⟨?_, hl⟩
  apply List.ext_getElem?
  intro i
  by_cases hi : i < xs.length
  · have h2 := hr i _ (List.getElem?_eq_getElem hi)
    have h3 : (cs.drop (i * 1)).take 1 = [.bool xs[i]] := h2
    have h4 : cs[i]? = some (.bool xs[i]) := by
      have := congrArg (fun l => l[0]?) h3
      simpa [List.getElem?_take, List.getElem?_drop] using this
    simp [h4, List.getElem?_eq_getElem hi]
  · have hc : cs.length = xs.length * 1 := hlen
    rw [List.getElem?_eq_none (by omega), List.getElem?_eq_none (by simp; omega)]
theorem list_of_3 {α : Type} {xs : List α} (d : α) (h : xs.length = 3) : xs = [xs.getD 0 d, xs.getD 1 d, xs.getD 2 d] := by
  match xs, h with
  | [a, b, c], _ => rfl
/-! yardlaw24.Op -/
structure K_yardlaw24_Op where
  Kind : Int
  K : Int
  A : Int
  B : List Int
def zK_yardlaw24_Op : K_yardlaw24_Op := ⟨0, 0, 0, []⟩
def kdK_yardlaw24_Op : Kd K_yardlaw24_Op := Kd.iso (Kd.pair (Kd.int .i64) (Kd.pair (Kd.int .i64) (Kd.pair (Kd.int .i64) (Kd.slice 5 (Kd.int .u8))))) (fun x : K_yardlaw24_Op => (x.Kind, x.K, x.A, x.B))
def okK_yardlaw24_Op (x : K_yardlaw24_Op) : Prop := ((fun n => (Lit.int .i64 n).wf = true) x.Kind) ∧ ((fun n => (Lit.int .i64 n).wf = true) x.K) ∧ ((fun n => (Lit.int .i64 n).wf = true) x.A) ∧ ((fun xs => ∀ x ∈ xs, (fun n => (Lit.int .u8 n).wf = true) x) x.B)
theorem opens_K_yardlaw24_Op : Opens Try.prog 43 kdK_yardlaw24_Op okK_yardlaw24_Op :=
  opens_imp (opens_struct (fun x : K_yardlaw24_Op => (x.Kind, x.K, x.A, x.B)) (fun y => ⟨y.1, y.2.1, y.2.2.1, y.2.2.2⟩) (fun _ => rfl) Try.underlying43 (by kernel_rfl) (opensF_cons rfl (by kernel_rfl) (opens_int Try.underlying3) (opensF_cons rfl (by kernel_rfl) (opens_int Try.underlying3) (opensF_cons rfl (by kernel_rfl) (opens_int Try.underlying3) (opensF_one rfl (by kernel_rfl) (opens_slice (E := 5) Try.underlying27 (by kernel_rfl) (opens_int Try.underlying5))))))) (fun _ h => h)
theorem K_yardlaw24_Op_open {w : World} {x : K_yardlaw24_Op} {cs : List Value} (h : kdK_yardlaw24_Op.K w x cs) : ∃ A3 c3, cs = [.int .i64 x.Kind, .int .i64 x.K, .int .i64 x.A, .slice A3 (x.B).length c3] ∧ (x.B).length ≤ c3 ∧ (Kd.int .u8).C w A3 (x.B).length x.B := by
  obtain ⟨_, _, rfl, rfl, ⟨_, _, rfl, rfl, ⟨_, _, rfl, rfl, ⟨A3, c3, rfl, l3, g3⟩⟩⟩⟩ := h
  exact ⟨A3, c3, rfl, l3, g3⟩
theorem K_yardlaw24_Op_at {w : World} {A : Option Addr} {n : Nat} {xs : List K_yardlaw24_Op} (h : kdK_yardlaw24_Op.C w A n xs) (i : Int) (h0 : 0 ≤ i) (h1 : i < n) : ∃ ad A3 c3, A = some ad ∧ w.cell? (ad.add (i.toNat * 4)) = some (.int .i64 (xs.getD i.toNat zK_yardlaw24_Op).Kind) ∧ w.cell? ⟨(ad.add (i.toNat * 4)).block, (ad.add (i.toNat * 4)).off + 1, none⟩ = some (.int .i64 (xs.getD i.toNat zK_yardlaw24_Op).K) ∧ w.cell? ⟨(ad.add (i.toNat * 4)).block, (ad.add (i.toNat * 4)).off + 2, none⟩ = some (.int .i64 (xs.getD i.toNat zK_yardlaw24_Op).A) ∧ w.cell? ⟨(ad.add (i.toNat * 4)).block, (ad.add (i.toNat * 4)).off + 3, none⟩ = some (.slice A3 ((xs.getD i.toNat zK_yardlaw24_Op).B).length c3) ∧ ((xs.getD i.toNat zK_yardlaw24_Op).B).length ≤ c3 ∧ (Kd.int .u8).C w A3 ((xs.getD i.toNat zK_yardlaw24_Op).B).length (xs.getD i.toNat zK_yardlaw24_Op).B := by
  obtain ⟨ad, c, e, _, hK, hc0⟩ := Kd.C_get h zK_yardlaw24_Op i h0 h1
  have hc : ∀ j u, c[j]? = some u → w.cell? (ad.add (i.toNat * 4 + j)) = some u := hc0
  obtain ⟨A3, c3, rfl, l3, g3⟩ := K_yardlaw24_Op_open hK
  exact ⟨ad, A3, c3, e, hc 0 _ rfl, by rw [← add_field _ _ 1 (by omega)]; exact hc 1 _ rfl, by rw [← add_field _ _ 2 (by omega)]; exact hc 2 _ rfl, by rw [← add_field _ _ 3 (by omega)]; exact hc 3 _ rfl, l3, g3⟩
end Go.Proofs.Ythdjlhhdjanocaa
