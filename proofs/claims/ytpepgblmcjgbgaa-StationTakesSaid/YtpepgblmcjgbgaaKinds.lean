/- The kinds of structs that this seat reads, written by kinds.py out of the translation: each struct as Lean's, its cells, an element of a slice of it. No condition. -/
import Derived.Test.YtpepgblmcjgbgaaProg
import Derived.Test.YtpepgblmcjgbgaaOpen
namespace Go.Proofs.Ytpepgblmcjgbgaa
open Go.RowKit Go.Proofs.YtpepgblmcjgbgaaW.PrintWords
set_option linter.unusedVariables false
theorem arr_cells_int {k : IntKind} {n : Nat} {w : World} {xs : List Int} {cs : List Value} {hs : 0 < (Kd.int k).sz} (h : (Kd.arr n (Kd.int k) hs).K w xs cs) : cs = xs.map (.int k) ∧ xs.length = n := by
  obtain ⟨hl, hlen, hr⟩ := h
  refine ⟨?_, hl⟩
  apply List.ext_getElem?
  intro i
  by_cases hi : i < xs.length
  · have h2 := hr i _ (List.getElem?_eq_getElem hi)
    have h3 : (cs.drop (i * 1)).take 1 = [.int k xs[i]] := h2
    have hc : cs.length = xs.length * 1 := hlen
    have h4 : cs[i]? = some (.int k xs[i]) := by
      have := congrArg (fun l => l[0]?) h3
      simpa [List.getElem?_take, List.getElem?_drop] using this
    simp [h4, List.getElem?_eq_getElem hi]
  · have hc : cs.length = xs.length * 1 := hlen
    rw [List.getElem?_eq_none (by omega), List.getElem?_eq_none (by simp; omega)]
theorem arr_cells_bool {n : Nat} {w : World} {xs : List Bool} {cs : List Value} {hs : 0 < Kd.bool.sz} (h : (Kd.arr n Kd.bool hs).K w xs cs) : cs = xs.map .bool ∧ xs.length = n := by
  obtain ⟨hl, hlen, hr⟩ := h
  refine ⟨?_, hl⟩
  apply List.ext_getElem?
  intro i
  by_cases hi : i < xs.length
  · have h2 := hr i _ (List.getElem?_eq_getElem hi)
    have h3 : (cs.drop (i * 1)).take 1 = [.bool xs[i]] := h2
    have h4 : cs[i]? = some (.bool xs[i]) := by
      have := congrArg (fun l => l[0]?) h3
      simpa [List.getElem?_take, List.getElem?_drop] using this
    simp [h4, List.getElem?_eq_getElem hi]
  · have hc : cs.length = xs.length * 1 := hlen
    rw [List.getElem?_eq_none (by omega), List.getElem?_eq_none (by simp; omega)]
theorem list_of_3 {α : Type} {xs : List α} (d : α) (h : xs.length = 3) : xs = [xs.getD 0 d, xs.getD 1 d, xs.getD 2 d] := by
  match xs, h with
  | [a, b, c], _ => rfl
/-! link.Frame -/
structure K_link_Frame where
  Ctl : Int
  Dest : Int
  Src : Int
  Data : List Int
def zK_link_Frame : K_link_Frame := ⟨0, 0, 0, []⟩
def kdK_link_Frame : Kd K_link_Frame := Kd.iso (Kd.pair (Kd.int .i64) (Kd.pair (Kd.int .i64) (Kd.pair (Kd.int .i64) (Kd.slice 5 (Kd.int .u8))))) (fun x : K_link_Frame => (x.Ctl, x.Dest, x.Src, x.Data))
def okK_link_Frame (x : K_link_Frame) : Prop := ((fun n => (Lit.int .i64 n).wf = true) x.Ctl) ∧ ((fun n => (Lit.int .i64 n).wf = true) x.Dest) ∧ ((fun n => (Lit.int .i64 n).wf = true) x.Src) ∧ ((fun xs => ∀ x ∈ xs, (fun n => (Lit.int .u8 n).wf = true) x) x.Data)
theorem opens_K_link_Frame : Opens Try.prog 29 kdK_link_Frame okK_link_Frame :=
  opens_imp (opens_struct (fun x : K_link_Frame => (x.Ctl, x.Dest, x.Src, x.Data)) (fun y => ⟨y.1, y.2.1, y.2.2.1, y.2.2.2⟩) (fun _ => rfl) Try.underlying29 (by kernel_rfl) (opensF_cons rfl (by kernel_rfl) (opens_int Try.underlying3) (opensF_cons rfl (by kernel_rfl) (opens_int Try.underlying3) (opensF_cons rfl (by kernel_rfl) (opens_int Try.underlying3) (opensF_one rfl (by kernel_rfl) (opens_slice (E := 5) Try.underlying27 (by kernel_rfl) (opens_int Try.underlying5))))))) (fun _ h => h)
theorem K_link_Frame_open {w : World} {x : K_link_Frame} {cs : List Value} (h : kdK_link_Frame.K w x cs) : ∃ A3 c3, cs = [.int .i64 x.Ctl, .int .i64 x.Dest, .int .i64 x.Src, .slice A3 (x.Data).length c3] ∧ (x.Data).length ≤ c3 ∧ (Kd.int .u8).C w A3 (x.Data).length x.Data := by
  obtain ⟨_, _, rfl, rfl, ⟨_, _, rfl, rfl, ⟨_, _, rfl, rfl, ⟨A3, c3, rfl, l3, g3⟩⟩⟩⟩ := h
  exact ⟨A3, c3, rfl, l3, g3⟩
theorem K_link_Frame_at {w : World} {A : Option Addr} {n : Nat} {xs : List K_link_Frame} (h : kdK_link_Frame.C w A n xs) (i : Int) (h0 : 0 ≤ i) (h1 : i < n) : ∃ ad A3 c3, A = some ad ∧ w.cell? (ad.add (i.toNat * 4)) = some (.int .i64 (xs.getD i.toNat zK_link_Frame).Ctl) ∧ w.cell? ⟨(ad.add (i.toNat * 4)).block, (ad.add (i.toNat * 4)).off + 1, none⟩ = some (.int .i64 (xs.getD i.toNat zK_link_Frame).Dest) ∧ w.cell? ⟨(ad.add (i.toNat * 4)).block, (ad.add (i.toNat * 4)).off + 2, none⟩ = some (.int .i64 (xs.getD i.toNat zK_link_Frame).Src) ∧ w.cell? ⟨(ad.add (i.toNat * 4)).block, (ad.add (i.toNat * 4)).off + 3, none⟩ = some (.slice A3 ((xs.getD i.toNat zK_link_Frame).Data).length c3) ∧ ((xs.getD i.toNat zK_link_Frame).Data).length ≤ c3 ∧ (Kd.int .u8).C w A3 ((xs.getD i.toNat zK_link_Frame).Data).length (xs.getD i.toNat zK_link_Frame).Data := by
  obtain ⟨ad, c, e, _, hK, hc0⟩ := Kd.C_get h zK_link_Frame i h0 h1
  have hc : ∀ j u, c[j]? = some u → w.cell? (ad.add (i.toNat * 4 + j)) = some u := hc0
  obtain ⟨A3, c3, rfl, l3, g3⟩ := K_link_Frame_open hK
  exact ⟨ad, A3, c3, e, hc 0 _ rfl, by rw [← add_field _ _ 1 (by omega)]; exact hc 1 _ rfl, by rw [← add_field _ _ 2 (by omega)]; exact hc 2 _ rfl, by rw [← add_field _ _ 3 (by omega)]; exact hc 3 _ rfl, l3, g3⟩
end Go.Proofs.Ytpepgblmcjgbgaa
