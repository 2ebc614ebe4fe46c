/- How an argument of any shape that came in is opened: what the row's reading tells of its cells, as the printed words' kinds. No condition. -/
import Derived.Test.YthdjlhhdjanocaaWWords
import Derived.Test.YthdjlhhdjanocaaWArr
import Derived.ChangeArms
import Derived.OpenShut
import Derived.DataReads
namespace Go.Proofs.Ythdjlhhdjanocaa
open Go.RowKit Go.Proofs.YthdjlhhdjanocaaW.PrintWords
set_option linter.unusedVariables false

/-- Whatever reads as data of type t is a value of kind d, and it is well formed. -/
def Opens {α : Type} (P : Program) (t : TypeId) (d : Kd α) (Ok : α → Prop) : Prop :=
  ∀ (H : Type) (enc : TypeId × Value → H) (w : World) (fuel : Nat) (cs : List Value) (x : DataW H × List MemPlace), DataW.trod enc P w 0 (fun _ => true) true fuel t cs = some x → ∃ v, d.K w v cs ∧ Ok v

theorem list_of_each {α : Type} (n : Nat) : ∀ (Q : Nat → α → Prop), (∀ i, i < n → ∃ v, Q i v) → ∃ xs : List α, xs.length = n ∧ ∀ i v, xs[i]? = some v → Q i v := by
  induction n with
  | zero => intro Q _; exact ⟨[], rfl, fun i v h => by simp at h⟩
  | succ n ih =>
    intro Q h
    obtain ⟨v, hv⟩ := h 0 (by omega)
    obtain ⟨xs, hl, hx⟩ := ih (fun i => Q (i + 1)) (fun i hi => h (i + 1) (by omega))
    refine ⟨v :: xs, by simp [hl], fun i u hu => ?_⟩
    cases i with
    | zero => simp at hu; subst hu; exact hv
    | succ i => exact hx i u (by simpa using hu)

theorem opens_int {P : Program} {t : TypeId} {k : IntKind} (hu : P.underlying t = some (.int k)) : Opens P t (Kd.int k) (fun n => (Lit.int k n).wf = true) := by
  intro H enc w fuel cs x h
  obtain ⟨n, rfl, _, hw⟩ := DataW.trod_int hu h
  exact ⟨n, rfl, hw⟩
theorem opens_bool {P : Program} {t : TypeId} (hu : P.underlying t = some .bool) : Opens P t Kd.bool (fun _ => True) := by
  intro H enc w fuel cs x h
  obtain ⟨b, rfl, _⟩ := DataW.trod_bool hu h
  exact ⟨b, rfl, trivial⟩
theorem opens_string {P : Program} {t : TypeId} (hu : P.underlying t = some .string) : Opens P t Kd.string (fun s => s.size ≤ maxLen) := by
  intro H enc w fuel cs x h
  obtain ⟨s, rfl, _, hs⟩ := DataW.trod_string hu h
  exact ⟨s, rfl, hs⟩
theorem opens_imp {α : Type} {P : Program} {t : TypeId} {d : Kd α} {Ok Ok' : α → Prop} (h : Opens P t d Ok) (hi : ∀ v, Ok v → Ok' v) : Opens P t d Ok' := by
  intro H enc w fuel cs x hx
  obtain ⟨v, h1, h2⟩ := h H enc w fuel cs x hx
  exact ⟨v, h1, hi v h2⟩

theorem opens_slice {α : Type} {P : Program} {t e E : TypeId} {d : Kd α} {Ok : α → Prop} (ht : P.underlying t = some (.slice e)) (hc : P.cellsOf e = d.sz) (ho : Opens P e d Ok) :
    Opens P t (Kd.slice E d) (fun xs => ∀ x ∈ xs, Ok x) := by
  intro H enc w fuel cs x h
  rcases DataW.trod_slice ht h with ⟨rfl, _⟩ | ⟨a, len, cap, elems, rest, n, _, rfl, _, hb, hl, hm, hlen, hel, _, _⟩
  · exact ⟨[], ⟨none, 0, rfl, Nat.le_refl _, ⟨rfl, Nat.zero_le _, fun h => absurd h (Nat.lt_irrefl 0)⟩⟩, fun x hx => by simp at hx⟩
  · have each : ∀ i, i < len → ∃ v : α, ∃ c : List Value, (c.length = d.sz ∧ d.K w v c ∧ ∀ j u, c[j]? = some u → w.cell? (a.add (i * d.sz + j)) = some u) ∧ Ok v := by
      intro i hi
      have he := hel i hi
      rw [List.getElem?_eq_getElem (by omega)] at he
      obtain ⟨c, h1, h2⟩ := Option.bind_eq_some_iff.1 he
      obtain ⟨v, hv, hok⟩ := ho H enc w n c _ h2
      obtain ⟨_, hcl, hcell⟩ := World.cells?_some h1
      refine ⟨v, c, ⟨by rw [hcl, hc], hv, fun j u hu => ?_⟩, hok⟩
      have hj : j < P.cellsOf e := by
        rcases Nat.lt_or_ge j c.length with h | h
        · omega
        · rw [List.getElem?_eq_none h] at hu; cases hu
      have := hcell j hj
      rw [hu] at this
      rw [hc] at this
      rw [← this]
      congr 1
      unfold Addr.add
      by_cases h1 : i * d.sz = 0 <;> by_cases h2 : j = 0 <;> simp [h1, h2, Nat.add_assoc]
    obtain ⟨xs, hxl, hx⟩ := list_of_each len _ each
    have hmx : len ≤ 9223372036854775807 := by unfold maxLen at hm; omega
    refine ⟨xs, ⟨some a, cap, by rw [hxl], by omega, ⟨rfl, by omega, fun _ => ⟨a, rfl, fun j p hj => ?_⟩⟩⟩, fun v hv => ?_⟩
    · obtain ⟨c, ⟨h1, h2, h3⟩, _⟩ := hx j p hj
      exact ⟨c, h1, h2, h3⟩
    · obtain ⟨i, hi, rfl⟩ := List.getElem_of_mem hv
      obtain ⟨c, _, hok⟩ := hx i _ (List.getElem?_eq_getElem hi)
      exact hok

/-- The same of a struct's fields from place 'off' on. -/
def OpensF {α : Type} (P : Program) (fs : List Field) (off : Nat) (d : Kd α) (Ok : α → Prop) : Prop :=
  ∀ (H : Type) (enc : TypeId × Value → H) (w : World) (n : Nat) (cs : List Value) (xs : List (DataW H × List MemPlace)),
    (∀ (i : Nat) (f : Field), fs[i]? = some f → DataW.trod enc P w 0 (fun _ => true) true n f.type ((cs.drop f.offset).take (P.cellsOf f.type)) = xs[i]?) → xs.length = fs.length → cs.length = off + d.sz → ∃ v, d.K w v (cs.drop off) ∧ Ok v
theorem opensF_one {α : Type} {P : Program} {f : Field} {off : Nat} {d : Kd α} {Ok : α → Prop} (hoff : f.offset = off) (hc : P.cellsOf f.type = d.sz) (ho : Opens P f.type d Ok) : OpensF P [f] off d Ok := by
  intro H enc w n cs xs h hl hcs
  have h0 := h 0 f rfl
  match xs, hl with
  | [x], _ =>
    obtain ⟨v, hv, hok⟩ := ho H enc w n _ x (by simpa using h0)
    refine ⟨v, ?_, hok⟩
    rw [hoff, hc, List.take_of_length_le (by simp; omega)] at hv
    exact hv
theorem opensF_cons {α β : Type} {P : Program} {f : Field} {fs : List Field} {off : Nat} {a : Kd α} {b : Kd β} {Oka : α → Prop} {Okb : β → Prop} (hoff : f.offset = off) (hc : P.cellsOf f.type = a.sz) (ho : Opens P f.type a Oka) (hr : OpensF P fs (off + a.sz) b Okb) :
    OpensF P (f :: fs) off (Kd.pair a b) (fun x => Oka x.1 ∧ Okb x.2) := by
  intro H enc w n cs xs h hl hcs
  have h0 := h 0 f rfl
  match xs, hl with
  | x :: xs, hl =>
    obtain ⟨v, hv, hok⟩ := ho H enc w n _ x (by simpa using h0)
    have hsz : (Kd.pair a b).sz = a.sz + b.sz := rfl
    rw [hsz] at hcs
    obtain ⟨v2, hv2, hok2⟩ := hr H enc w n cs xs (fun i g hg => by simpa using h (i + 1) g (by simpa using hg)) (by simpa using hl) (by omega)
    refine ⟨(v, v2), ⟨_, _, ?_, hv, hv2⟩, hok, hok2⟩
    rw [hoff, hc, ← List.drop_drop, List.take_append_drop]
theorem opens_struct {α β : Type} {P : Program} {t : TypeId} {fs : Array Field} {d : Kd α} {Ok : α → Prop} (f : β → α) (g : α → β) (hgf : ∀ x, f (g x) = x) (ht : P.underlying t = some (.struct fs)) (hc : P.cellsOf t = d.sz) (ho : OpensF P fs.toList 0 d Ok) :
    Opens P t (Kd.iso d f) (fun x => Ok (f x)) := by
  intro H enc w fuel cs x h
  obtain ⟨xs, n, _, _, hl, hxl, hx⟩ := DataW.trod_struct ht h
  obtain ⟨v, hv, hok⟩ := ho H enc w n cs xs (fun i f hf => hx i f (by simpa using hf)) (by simpa using hxl) (by rw [hl, hc]; omega)
  refine ⟨g v, ?_, by show Ok (f (g v)); rw [hgf]; exact hok⟩
  show d.K w (f (g v)) cs
  rw [hgf]
  simpa using hv
theorem opens_array {α : Type} {P : Program} {t e : TypeId} {m : Nat} {d : Kd α} {Ok : α → Prop} (hs : 0 < d.sz) (ht : P.underlying t = some (.array m e)) (hct : P.cellsOf t = m * d.sz) (hc : P.cellsOf e = d.sz) (ho : Opens P e d Ok) :
    Opens P t (Kd.arr m d hs) (fun xs => ∀ x ∈ xs, Ok x) := by
  intro H enc w fuel cs x h
  obtain ⟨xs, n, _, _, hl, hxl, hx⟩ := DataW.trod_array ht h
  have each : ∀ i, i < m → ∃ v : α, d.K w v ((cs.drop (i * d.sz)).take d.sz) ∧ Ok v := by
    intro i hi
    have he := hx i hi
    rw [List.getElem?_eq_getElem (by omega)] at he
    obtain ⟨v, hv, hok⟩ := ho H enc w n _ _ he
    rw [hc] at hv
    exact ⟨v, hv, hok⟩
  obtain ⟨vs, hvl, hv⟩ := list_of_each m _ each
  refine ⟨vs, ⟨hvl, by rw [hl, hct, hvl], fun j p hj => (hv j p hj).1⟩, fun v hm => ?_⟩
  obtain ⟨i, hi, rfl⟩ := List.getElem_of_mem hm
  exact (hv i _ (List.getElem?_eq_getElem hi)).2

/-- An argument that is a slice. -/
theorem open_row {α H : Type} {P : Program} {enc : TypeId × Value → H} {w : World} {t E : TypeId} {d : Kd α} {Ok : List α → Prop} (ho : Opens P t (Kd.slice E d) Ok) {a : Option Addr} {len cap : Nat} {x : DataW H} {ps : List MemPlace} (h : DataW.Trod enc P w 0 (fun _ => true) true t (.slice a len cap) x ps) :
    ∃ xs : List α, d.C w a len xs ∧ len ≤ cap ∧ Ok xs := by
  obtain ⟨fuel, hf⟩ := h
  obtain ⟨xs, ⟨A, c, he, hl, hC⟩, hok⟩ := ho H enc w fuel _ _ hf
  simp [Value.cells] at he
  obtain ⟨rfl, rfl, rfl⟩ := he
  exact ⟨xs, hC, hl, hok⟩
/-- An argument that is a struct or an array by value. -/
theorem open_cells {α H : Type} {P : Program} {enc : TypeId × Value → H} {w : World} {t : TypeId} {d : Kd α} {Ok : α → Prop} (ho : Opens P t d Ok) {v : Value} {x : DataW H} {ps : List MemPlace} (h : DataW.Trod enc P w 0 (fun _ => true) true t v x ps) :
    ∃ y : α, d.K w y v.cells.toList ∧ Ok y := by
  obtain ⟨fuel, hf⟩ := h
  exact ho H enc w fuel _ _ hf
end Go.Proofs.Ythdjlhhdjanocaa
