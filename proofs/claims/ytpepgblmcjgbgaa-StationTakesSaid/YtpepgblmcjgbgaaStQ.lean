/- The document's station: any frame; frames one behind the other, the law. Conditions: the arguments read as data. -/
import Derived.Test.YtpepgblmcjgbgaaStP
import Derived.Test.YtpepgblmcjgbgaaStN
namespace Go.Proofs.Ytpepgblmcjgbgaa
open Go.RowKit Go.Proofs.YtpepgblmcjgbgaaW.PrintWords
set_option linter.unusedVariables false
theorem factsL {V w' : World} {a p g : Nat} {fa fb fd : Int} {t1 t2 : TypeId} {x0 x1 : Value} {up fc : Bool} (ha : V.heap[a]? = some (.cells #[.int .i64 fa, .int .i64 fb, .int .i64 fd, .slice none 0 0] t1 (0, 0))) (hp : V.heap[p]? = some (.cells #[.int .i64 fa, .int .i64 fb, .int .i64 fd, .slice none 0 0] t2 (0, 0))) (hg : V.heap[g]? = some (.cells #[x0, x1, .bool up, .bool fc] 46 (0, 0))) (h : Below V.heap.size V w') :
    Aside0 (Below V.heap.size V w') ∧ w'.cell? ⟨a, 0, none⟩ = some (.int .i64 fa) ∧ w'.cell? ⟨a, 1, none⟩ = some (.int .i64 fb) ∧ w'.cell? ⟨a, 2, none⟩ = some (.int .i64 fd) ∧ w'.cell? ⟨a, 3, none⟩ = some (.slice none 0 0) ∧ w'.cell? ⟨p, 0, none⟩ = some (.int .i64 fa) ∧ w'.cell? ⟨p, 1, none⟩ = some (.int .i64 fb) ∧ w'.cell? ⟨p, 2, none⟩ = some (.int .i64 fd) ∧ w'.cell? ⟨p, 3, none⟩ = some (.slice none 0 0) ∧ w'.cell? ⟨g, 2, none⟩ = some (.bool up) ∧ w'.cell? ⟨g, 3, none⟩ = some (.bool fc) := by
  have h1 := blk_below ha h
  have h2 := blk_below hp h
  have h3 := blk_below hg h
  exact ⟨Aside0.mk h, blk_cell h1 0, blk_cell h1 1, blk_cell h1 2, blk_cell h1 3, blk_cell h2 0, blk_cell h2 1, blk_cell h2 2, blk_cell h2 3, blk_cell h3 2, blk_cell h3 3⟩
theorem nextL {V w4 w5 : World} {q : Prop} (h : Aside0 (Below V.heap.size V w4) ∧ q) (hb : Below w4.heap.size w4 w5) : Aside0 (Below V.heap.size V w5) := Aside0.mk (below_two h.1.out hb)
theorem readsL {V w4 : World} {q : Prop} {k : IntKind} {A : Option Addr} {n : Nat} {l : List Int} (hr : ReadsInt V k A n l) (h : Aside0 (Below V.heap.size V w4) ∧ q) : ReadsInt w4 k A n l := hr.below h.1.out
theorem rsame_nil (c d r : Int) (w : World) :
    Calls Try.prog 22 #[.agg #[.int .i64 c, .int .i64 d, .int .i64 r, .slice none 0 0], .agg #[.int .i64 c, .int .i64 d, .int .i64 r, .slice none 0 0]] w (fun e w' => e = .returned (.bool true) ∧ Below w.heap.size w w') :=
  rsame_any c d r 0 0 0 none none 0 0 0 0 [] [] w (reads_nil _ _ _) (reads_nil _ _ _) bytes_nil bytes_nil
theorem rsame_same (c d r : Int) (A A' : Option Addr) (n k n' k' : Nat) (l : List Int) (w : World) (hr : ReadsInt w .u8 A n l) (hr' : ReadsInt w .u8 A' n' l) (hb : Bytes l) :
    Calls Try.prog 22 #[.agg #[.int .i64 c, .int .i64 d, .int .i64 r, .slice A n k], .agg #[.int .i64 c, .int .i64 d, .int .i64 r, .slice A' n' k']] w (fun e w' => e = .returned (.bool true) ∧ Below w.heap.size w w') := by
  have h := rsame_any c d r 0 0 0 A A' n k n' k' l l w hr hr' hb hb
  rwa [decide_eq_true (rfl : l = l)] at h
theorem tk_if_deaf {s : St} {c d r : Int} (h : deafB s c d r = true) : tk s c d r = ⟨s, none, false⟩ := by unfold tk; rw [if_pos h]
theorem rtake_any (B g : Nat) (s : St) (ctl dest src : Int) (A : Option Addr) (n c : Nat) (l : List Int) (w : World) (hs : IsRf B w g s) (hr : ∀ w1, Chg g w w1 → ReadsInt w1 .u8 A n l) (hsz : n ≤ 140737488355328) :
    Calls Try.prog 20 #[.pointer (some ⟨g, 0, none⟩), .agg #[.int .i64 ctl, .int .i64 dest, .int .i64 src, .slice A n c]] w (RTakePost B g s (tk s ctl dest src) l w) := by
  have HR := Aside0.mk hr
  cases e1 : (dest != s.own) with
  | true => exact rtake_deaf1 B g s ctl dest src A n c l w hs (Aside0.mk (tk_if_deaf (by unfold deafB; rw [e1]; rfl))) e1
  | false =>
  cases e2 : (src != s.master) with
  | true => exact rtake_deaf2 B g s ctl dest src A n c l w hs (Aside0.mk (tk_if_deaf (by unfold deafB; rw [e1, e2]; rfl))) e1 e2
  | false =>
  have hl := bits_link ctl
  cases e34 : (bits .and .i64 ctl 192 != 192) with
  | true =>
    refine rtake_deaf3 B g s ctl dest src A n c l w hs (Aside0.mk (tk_if_deaf ?_)) e1 e2 e34
    rw [e34] at hl
    unfold deafB
    rw [e1, e2]
    cases h7 : (bits .and .i64 ctl 128 == 0) with
    | true => rfl
    | false => rw [h7] at hl; rw [show (bits .and .i64 ctl 64 == 0) = true from hl.symm]; rfl
  | false =>
  rw [e34] at hl
  have hl2 := Bool.or_eq_false_iff.1 hl.symm
  have e3 := hl2.1
  have e4 := hl2.2
  cases hd : ((bits .and .i64 ctl 16 != 0) != (bits .and .i64 ctl 15 == 2 || bits .and .i64 ctl 15 == 3)) with
  | true => exact rtake_deaf4 B g s ctl dest src A n c l w hs (Aside0.mk (tk_if_deaf (by unfold deafB; rw [e1, e2, e3, e4, hd]; rfl))) e1 e2 e34 _ _ _ rfl rfl rfl hd
  | false =>
    have hd0 : deafB s ctl dest src = false := by unfold deafB; rw [e1, e2, e3, e4, hd]; rfl
    have e5 := hd
    cases e6 : (bits .and .i64 ctl 15 == 2) with
    | true =>
      have hx : bits .and .i64 ctl 15 = 2 := by simpa using e6
      have e7 : (bits .and .i64 ctl 15 == 3) = false := by rw [hx]; rfl
      have e8 : (bits .and .i64 ctl 15 == 0) = false := by rw [hx]; rfl
      rw [e6, e7] at e5
      have e5 : (bits .and .i64 ctl 16 != 0) = true := by
        cases h : (bits .and .i64 ctl 16 != 0) with
        | true => rfl
        | false => rw [h] at e5; exact absurd e5 (by decide)
      cases er : s.ready with
      | false => exact rtake_nack2 B g s ctl dest src A n c l w hs e1 e2 e34 e5 e6 e7 e8 er (Aside0.mk (by unfold tk; rw [hd0, e6, e8, er]; rfl))
      | true =>
        cases ef : (bits .and .i64 ctl 32 != 0) <;> cases ep : s.expect
        · exact rtake_tog2false B g s ctl dest src A n c l w hs e1 e2 e34 e5 e6 e7 e8 er ef ep (Aside0.mk (by unfold tk; rw [hd0, e6, e7, e8, er, ef, ep]; rfl))
        · exact rtake_again2 B g s ctl dest src A n c l w hs e1 e2 e34 e5 e6 e7 e8 er (by rw [ef, ep]; rfl) (Aside0.mk (by unfold tk; rw [hd0, e6, e8, er, ef, ep]; rfl))
        · exact rtake_again2 B g s ctl dest src A n c l w hs e1 e2 e34 e5 e6 e7 e8 er (by rw [ef, ep]; rfl) (Aside0.mk (by unfold tk; rw [hd0, e6, e8, er, ef, ep]; rfl))
        · exact rtake_tog2true B g s ctl dest src A n c l w hs e1 e2 e34 e5 e6 e7 e8 er ef ep (Aside0.mk (by unfold tk; rw [hd0, e6, e7, e8, er, ef, ep]; rfl))
    | false =>
      cases e7 : (bits .and .i64 ctl 15 == 3) with
      | true =>
        have hx : bits .and .i64 ctl 15 = 3 := by simpa using e7
        have e8 : (bits .and .i64 ctl 15 == 0) = false := by rw [hx]; rfl
        rw [e6, e7] at e5
        have e5 : (bits .and .i64 ctl 16 != 0) = true := by
          cases h : (bits .and .i64 ctl 16 != 0) with
          | true => rfl
          | false => rw [h] at e5; exact absurd e5 (by decide)
        cases er : s.ready with
        | false => exact rtake_nack3 B g s ctl dest src A n c l w hs e1 e2 e34 e5 e6 e7 e8 er (Aside0.mk (by unfold tk; rw [hd0, e6, e7, e8, er]; rfl))
        | true =>
          cases ef : (bits .and .i64 ctl 32 != 0) <;> cases ep : s.expect
          · exact rtake_tog3false B g s ctl dest src A n c l w hs e1 e2 e34 e5 e6 e7 e8 HR hsz er ef ep (Aside0.mk (by unfold tk; rw [hd0, e6, e7, e8, er, ef, ep]; rfl))
          · exact rtake_again3 B g s ctl dest src A n c l w hs e1 e2 e34 e5 e6 e7 e8 er (by rw [ef, ep]; rfl) (Aside0.mk (by unfold tk; rw [hd0, e6, e7, e8, er, ef, ep]; rfl))
          · exact rtake_again3 B g s ctl dest src A n c l w hs e1 e2 e34 e5 e6 e7 e8 er (by rw [ef, ep]; rfl) (Aside0.mk (by unfold tk; rw [hd0, e6, e7, e8, er, ef, ep]; rfl))
          · exact rtake_tog3true B g s ctl dest src A n c l w hs e1 e2 e34 e5 e6 e7 e8 HR hsz er ef ep (Aside0.mk (by unfold tk; rw [hd0, e6, e7, e8, er, ef, ep]; rfl))
      | false =>
        rw [e6, e7] at e5
        have e5 : (bits .and .i64 ctl 16 != 0) = false := by
          cases h : (bits .and .i64 ctl 16 != 0) with
          | false => rfl
          | true => rw [h] at e5; exact absurd e5 (by decide)
        cases e8 : (bits .and .i64 ctl 15 == 0) with
        | true => exact rtake_reset B g s ctl dest src A n c l w hs e1 e2 e34 e5 e6 e7 e8 (Aside0.mk (by unfold tk; rw [hd0, e8]; rfl))
        | false =>
          cases e9 : (bits .and .i64 ctl 15 == 4) with
          | true => exact rtake_plain B g s ctl dest src A n c l w hs e1 e2 e34 e5 e6 e7 e8 e9 HR hsz (Aside0.mk (by unfold tk; rw [hd0, e6, e7, e8, e9]; rfl))
          | false =>
            cases e10 : (bits .and .i64 ctl 15 == 9) with
            | true => exact rtake_status B g s ctl dest src A n c l w hs e1 e2 e34 e5 e6 e7 e8 e9 e10 (Aside0.mk (by unfold tk; rw [hd0, e6, e7, e8, e9, e10]; rfl))
            | false => exact rtake_other B g s ctl dest src A n c l w hs e1 e2 e34 e5 e6 e7 e8 e9 e10 (Aside0.mk (by unfold tk; rw [hd0, e6, e7, e8, e9, e10]; rfl))
def RTook (B g : Nat) (F : Value) (is up : Bool) (x : St) (d : List Int) (w : World) (e : Ending) (w' : World) : Prop :=
  ∃ v, e = .returned (.tuple #[F, .bool is, v, .bool up]) ∧ w'.ownsRow w.heap.size 5 1 v d.length (nums .u8 d) ∧ IsRf B w' g x ∧ Chg g w w'
theorem rtake_eq (B g : Nat) (s : St) (ctl dest src : Int) (A : Option Addr) (n c : Nat) (l : List Int) (w : World) (x : St) (an : Option Int) (up : Bool) (fa fb fd : Int) (ht : tk s ctl dest src = ⟨x, an, up⟩) (hF : frameV s an = .agg #[.int .i64 fa, .int .i64 fb, .int .i64 fd, .slice none 0 0]) (hs : IsRf B w g s) (hr : ∀ w1, Chg g w w1 → ReadsInt w1 .u8 A n l) (hsz : n ≤ 140737488355328) :
    Calls Try.prog 20 #[.pointer (some ⟨g, 0, none⟩), .agg #[.int .i64 ctl, .int .i64 dest, .int .i64 src, .slice A n c]] w (RTook B g (.agg #[.int .i64 fa, .int .i64 fb, .int .i64 fd, .slice none 0 0]) an.isSome up x (dat up l) w) := by
  have h := rtake_any B g s ctl dest src A n c l w hs hr hsz
  rw [ht] at h
  have h2 : RTakePost B g s ⟨x, an, up⟩ l w = RTook B g (frameV s an) an.isSome up x (dat up l) w := rfl
  rw [h2, hF] at h; exact h
set_option maxHeartbeats 6000000 in
set_option maxRecDepth 100000 in
theorem takes_law (own master : Int) (A : Option Addr) (n c : Nat) (l : List Fr) (at_ : Int) (A3 : Option Addr) (nx c3 : Nat) (d : List Int) (w : World) (h : kdK_link_Frame.C w A n l) (hok : ∀ o ∈ l, okK_link_Frame o) (hx : (Kd.int .u8).C w A3 nx d) (hbx : Bytes d) :
    Calls Try.prog 8 #[.int .i64 own, .int .i64 master, .slice A n c, .int .i64 at_, .slice A3 nx c3] w (fun e w' => e = .returned (.bool true) ∧ Below w.heap.size w w') := by
  have hn : n ≤ 9223372036854775807 := h.2.1
  have HL := Aside0.mk (show l.length = n from h.1)
  have HOK := Aside0.mk hok
  have H := Aside0.mk h
  have HX := Aside0.mk (reads_int hx)
  have hnx : nx ≤ 9223372036854775807 := hx.2.1
  have HD := Aside0.mk (show d.length = nx from hx.1)
  clear h hx hok
  go_enter Try.func8, Try.ntmps8
  go_wp2_with fail
  (with_reducible refine (first_any _).mono ?_)
  rintro _ w1 ⟨rfl, hb1⟩
  have hle1 := hb1.size
  go_wp2_with fail
  (with_reducible refine (new_any w.heap.size own master _ hle1).mono ?_)
  rintro _ w2 ⟨g, rfl, hs2, hg2, hb2⟩
  have HS2 := Aside0.mk hs2
  have HB2 := Aside0.mk (below_two hb1 hb2)
  have lg2 : w.heap.size ≤ g := Nat.le_trans hle1 hg2
  have l2 := hs2.lt
  clear hs2 hb1 hb2 hle1
  go_wp2_with fail
  (with_reducible refine (few_any A n c l _ (Kd.C_below H.out HB2.out)).mono ?_)
  rintro _ w3 ⟨rfl, rfl⟩
  cases hf : fewB l
  · go_wp2_with fail
    (with_reducible refine (first_any _).mono ?_)
    rintro _ w4 ⟨rfl, hb4⟩
    have HB4 := Aside0.mk (below_two HB2.out hb4)
    clear hb4
    go_wp2
    go_ret
    exact ⟨rfl, HB4.out⟩
  have HF := Aside0.mk (few_small hf)
  by_cases hr : 6000 < nx
  · go_wp2_with fail
    (with_reducible refine (first_any _).mono ?_)
    rintro _ w4 ⟨rfl, hb4⟩
    have HB4 := Aside0.mk (below_two HB2.out hb4)
    clear hb4
    go_wp2
    go_ret
    exact ⟨rfl, HB4.out⟩
  go_wp2
  obtain ⟨gx, hgx⟩ : ∃ gx, gx = w2.heap.size := ⟨_, rfl⟩
  have HR2 := Aside0.mk (show IsRf w.heap.size (w2.alloc (.cells #[.int .i64 own, .int .i64 master, .bool false, .bool false] 46)) gx ⟨own, master, false, false⟩ from ⟨by rw [hgx]; exact heap_alloc_new w2 _, by rw [hgx]; exact HB2.out.size⟩)
  have HS2' := Aside0.mk (HS2.out.below (below_alloc (Below.refl _ _) (.cells #[.int .i64 own, .int .i64 master, .bool false, .bool false] 46)))
  have HB2' := Aside0.mk (below_alloc HB2.out (.cells #[.int .i64 own, .int .i64 master, .bool false, .bool false] 46))
  rw [← hgx]
  have lgx : w.heap.size ≤ gx := by rw [hgx]; exact HB2.out.size
  have hne2 : g ≠ gx := by omega
  go_loopw [11, 13] (fun sv i wr => ∃ (j k : Nat) (s : St), j ≤ n ∧ i = .int .i64 j ∧ sv = .pointer (some ⟨k, 0, none⟩) ∧ k ≠ gx ∧ w.heap.size ≤ k ∧ Aside0 (IsSt w.heap.size wr k s) ∧ Aside0 (IsRf w.heap.size wr gx s) ∧ Aside0 (s.own = own ∧ s.master = master) ∧ Aside0 (Below w.heap.size w wr)) (fun _ i _ => n - (intOf i).toNat)
  case atStart => exact ⟨0, g, _, Nat.zero_le _, rfl, rfl, hne2, lg2, HS2', HR2, ⟨rfl, rfl⟩, HB2'⟩
  case round =>
    clear HS2 HS2' HR2 HB2 HB2' hgx hne2 l2 lg2
    obtain ⟨j, k, s, hj, rfl, rfl, hkx, lgk, HS, HX2, HM, HB⟩ := hrel
    by_cases hlt : j < n
    · obtain ⟨ad, A4, c4, rfl, k0, k1, k2, k3, l4, g4⟩ := K_link_Frame_at H.out j (by omega) (by omega)
      rw [Int.toNat_natCast] at k0 k1 k2 k3 l4 g4
      have hmem := getD_mem l j (by rw [HL.out]; exact hlt) zK_link_Frame
      obtain ⟨o, ho⟩ : ∃ o, l.getD j zK_link_Frame = o := ⟨_, rfl⟩
      rw [ho] at k0 k1 k2 k3 l4 g4 hmem
      have hsm := HF.out.2 o hmem
      have hby := wf_bytes (HOK.out o hmem).2.2.2
      have HRw := Aside0.mk (reads_int g4)
      obtain ⟨L, hLL⟩ : ∃ L, o.Data.length = L := ⟨_, rfl⟩
      rw [hLL] at k3 l4 hsm HRw
      have K := Aside0.mk (And.intro k0 (And.intro k1 (And.intro k2 k3)))
      obtain ⟨sx, an, b2, hT⟩ : ∃ sx an b2, tk s o.Ctl o.Dest o.Src = ⟨sx, an, b2⟩ := ⟨_, _, _, rfl⟩
      have hT3 := tk_same s o.Ctl o.Dest o.Src
      rw [hT] at hT3
      obtain ⟨fa, fb, fd, hF⟩ := frameV_agg s an
      have HT := Aside0.mk hT
      have HFv := Aside0.mk hF
      have HMx := Aside0.mk (show sx.own = own ∧ sx.master = master from ⟨hT3.1.trans HM.out.1, hT3.2.trans HM.out.2⟩)
      obtain ⟨D, hD⟩ : ∃ D, dat b2 o.Data = D := ⟨_, rfl⟩
      have HBy := Aside0.mk (show Bytes D by rw [← hD]; exact bytes_dat hby)
      have HD := Aside0.mk hD
      obtain ⟨LD, hLD⟩ : ∃ LD, D.length = LD := ⟨_, rfl⟩
      have HLD := Aside0.mk hLD
      clear ho hmem g4 hLL hT hT3 hF hD hLD hby k0 k1 k2 k3
      have hm1 := HM.out.1
      have hm2 := HM.out.2
      by_cases hat : (j : Int) = at_
      · subst hat
        have hb0 := HB.out.size
        go_wp2_with fail
        (with_reducible refine (copySt_any w.heap.size k s _ HS.out hb0).mono ?_)
        rintro _ w3 ⟨kc, rfl, hs3, hk3, hb3⟩
        have hs3k := HS.out.below hb3
        have lk := HS.out.lt
        have HS3 := Aside0.mk hs3
        have HX3 := Aside0.mk (HX2.out.below hb3)
        have HB3 := Aside0.mk (HB.out.trans (hb3.mono HB.out.size))
        have lgx3 := HX2.out.lt
        clear hs3 hb3
        have hr3 : ∀ w0, Chg k w3 w0 → ReadsInt w0 .u8 none 0 [] := fun w0 _ => reads_nil w0 .u8 none
        go_wp2_with fail
        (with_reducible refine (take_any w.heap.size k s 192 own master none 0 0 [] _ hs3k hr3 (by decide)).mono ?_)
        rintro _ w4 ⟨v4, rfl, _, hs4, hc4⟩
        go_wp2_with fail
        (with_reducible refine (reset_any w.heap.size k _ _ hs4).mono ?_)
        rintro _ wz ⟨rfl, _, hc5⟩
        have hcz := hc4.trans hc5
        have lkz : k < w3.heap.size := hs3k.lt
        have hne3 : kc ≠ k := by omega
        have HSz := Aside0.mk (HS3.out.other hcz hne3)
        have HXz := Aside0.mk (HX3.out.other hcz (Ne.symm hkx))
        have HBz := Aside0.mk (HB3.out.trans (hcz.below lgk HB3.out.size))
        have hkx1 : kc ≠ gx := by omega
        have lgk1 : w.heap.size ≤ kc := by omega
        clear hs4 hc4 hc5 hcz hr3 hs3k HS3 HX3 HB3 HS HX2 HB hkx lgk lk hb0
        have hkx := hkx1
        have lgk := lgk1
        have k0 := pw_cell_below HBz.out K.out.1
        have k1 := pw_cell_below HBz.out K.out.2.1
        have k2 := pw_cell_below HBz.out K.out.2.2.1
        have k3 := pw_cell_below HBz.out K.out.2.2.2
        have hro : ∀ w6, Chg kc wz w6 → ReadsInt w6 .u8 A4 L o.Data := fun w6 hc => HRw.out.below (HBz.out.trans (hc.below lgk HBz.out.size))
        go_wp2_with fail
        (with_reducible refine (take_eq w.heap.size kc s o.Ctl o.Dest o.Src A4 L c4 o.Data _ sx an b2 fa fb fd HT.out HFv.out HSz.out hro (by omega)).mono ?_)
        rintro _ w5 ⟨v5, rfl, ho5, hs5, hc5⟩
        rw [HD.out, HLD.out] at ho5
        obtain ⟨A5, c5, rfl, hr5⟩ := own_reads ho5
        have HS5 := Aside0.mk hs5
        have HX5 := Aside0.mk (HXz.out.other hc5 (Ne.symm hkx))
        have HB5 := Aside0.mk (HBz.out.trans (hc5.below lgk HBz.out.size))
        have HR5 := Aside0.mk hr5
        have HO5 := Aside0.mk ho5
        clear k0 k1 k2 k3 hro ho5 hr5 hs5 hc5
        have k0 := fun o1 => pw_cell_below (below_alloc HB5.out o1) K.out.1
        have k1 := fun o1 => pw_cell_below (below_alloc HB5.out o1) K.out.2.1
        have k2 := fun o1 => pw_cell_below (below_alloc HB5.out o1) K.out.2.2.1
        have k3 := fun o1 => pw_cell_below (below_alloc HB5.out o1) K.out.2.2.2
        go_wp2_with fail
        (with_reducible refine (plain_any o.Ctl o.Dest o.Src A4 L c4 _).mono ?_)
        rintro _ w6 ⟨rfl, hb6⟩
        have hA6 := blk_below (heap_alloc_new w5 _) hb6
        have HB56 := Aside0.mk (below_two (below_alloc (Below.refl _ _) _) hb6)
        have HA6 := Aside0.mk hA6
        have lw5 := HB5.out.size
        have hro : ∀ w7, Chg gx w6 w7 → ReadsInt w7 .u8 A4 L o.Data := fun w7 hc => HRw.out.below ((HB5.out.trans (HB56.out.mono HB5.out.size)).trans (hc.below lgx (Nat.le_trans HB5.out.size HB56.out.size)))
        have hx6 := HX5.out.below HB56.out
        have lgx5 := HX5.out.lt
        clear hb6 hA6 k0 k1 k2 k3
        go_wp2_with fail
        (with_reducible refine (rtake_eq w.heap.size gx s o.Ctl o.Dest o.Src A4 L c4 o.Data _ sx an b2 fa fb fd HT.out HFv.out hx6 hro (by omega)).mono ?_)
        rintro _ w7 ⟨v7, rfl, ho7, hs7, hc7⟩
        rw [HD.out, HLD.out] at ho7
        obtain ⟨A7, c7, rfl, hr7⟩ := own_reads ho7
        have hc57 : Chg gx w5 w7 := (Chg.of_below HB56.out).trans hc7
        have HX7 := Aside0.mk hs7
        have HS7 := Aside0.mk (HS5.out.other hc57 hkx)
        have HR7 := Aside0.mk hr7
        have HR57 := Aside0.mk (own_reads_of (own_chg HO5.out HX5.out.1 (by decide) hc57))
        have HA7 := Aside0.mk ((hc7.block w5.heap.size (blk_lt HA6.out) (by omega)).trans HA6.out)
        have HB7 := Aside0.mk (HB5.out.trans (hc57.below lgx HB5.out.size))
        clear ho7 hr7 hs7 hc7 hc57 hro hx6
        obtain ⟨up, hup⟩ : ∃ b, sx.ready = b := ⟨_, rfl⟩
        obtain ⟨fc, hfc⟩ : ∃ b, (sx.ready && sx.expect) = b := ⟨_, rfl⟩
        go_wp2_with fail
        (with_reducible refine (state_as _ kc sx up fc _ (HS7.out.below (below_alloc (Below.refl _ _) _)) hup hfc).mono ?_)
        rintro _ w8 ⟨rfl, m8, hw8⟩
        have hbs : Below w7.heap.size w7 w8 := by rw [hw8]; exact pw_below_drewN (below_alloc (Below.refl _ _) _) m8
        have HAV := Aside0.mk (blk_below HA7.out hbs)
        have HPV := Aside0.mk (show w8.heap[w7.heap.size]? = some (.cells #[.int .i64 fa, .int .i64 fb, .int .i64 fd, .slice none 0 0] 48 (0, 0)) by rw [hw8]; exact heap_alloc_new w7 _)
        have HXV := Aside0.mk (HX7.out.below hbs)
        have HSV := Aside0.mk (HS7.out.below hbs)
        have HBV := Aside0.mk (HB7.out.trans (hbs.mono HB7.out.size))
        have HRV := Aside0.mk (HR7.out.below hbs)
        have HR5V := Aside0.mk (HR57.out.below hbs)
        clear hw8 hbs
        have hgV : w8.heap[gx]? = some (.cells #[.int .i64 sx.own, .int .i64 sx.master, .bool up, .bool fc] 46 (0, 0)) := by have h := HXV.out.1; rw [hfc, hup] at h; exact h
        have HGV := Aside0.mk hgV
        clear hgV
        go_wp2
        go_region_held3 (fun w' => Aside0 (Below w8.heap.size w8 w') ∧ w'.cell? ⟨w5.heap.size, 0, none⟩ = some (.int .i64 fa) ∧ w'.cell? ⟨w5.heap.size, 1, none⟩ = some (.int .i64 fb) ∧ w'.cell? ⟨w5.heap.size, 2, none⟩ = some (.int .i64 fd) ∧ w'.cell? ⟨w5.heap.size, 3, none⟩ = some (.slice none 0 0) ∧ w'.cell? ⟨w7.heap.size, 0, none⟩ = some (.int .i64 fa) ∧ w'.cell? ⟨w7.heap.size, 1, none⟩ = some (.int .i64 fb) ∧ w'.cell? ⟨w7.heap.size, 2, none⟩ = some (.int .i64 fd) ∧ w'.cell? ⟨w7.heap.size, 3, none⟩ = some (.slice none 0 0) ∧ w'.cell? ⟨gx, 2, none⟩ = some (.bool up) ∧ w'.cell? ⟨gx, 3, none⟩ = some (.bool fc))
          (first
            | exact factsL HAV.out HPV.out HGV.out (Below.refl _ _)
            | exact factsL HAV.out HPV.out HGV.out (below_drew (Below.refl _ _))
            | exact factsL HAV.out HPV.out HGV.out (Aside0.out (by assumption)))
          (first
            | (go_at_call 21; (with_reducible refine (plain_any fa fb fd none 0 0 _).mono ?_); rintro e wb ⟨rfl, hbb⟩; have hnb : Aside0 (Below w8.heap.size w8 wb) := nextL (by assumption) hbb; clear hbb)
            | (go_at_call 22; (with_reducible refine (rsame_nil fa fb fd _).mono ?_); rintro e wc ⟨rfl, hbc⟩; have hnc : Aside0 (Below w8.heap.size w8 wc) := nextL (by assumption) hbc; clear hbc)
            | (go_at_call 13; (with_reducible refine (bytes_same A5 A7 LD LD c5 c7 D _ ?_ ?_ HBy.out).mono ?_); (exact readsL HR5V.out (by assumption)); (exact readsL HRV.out (by assumption)); rintro e wd ⟨rfl, rfl⟩))
        go_wp2
        have hkx2 : kc ≠ gx := hkx
        go_round
        case rel => exact ⟨j + 1, kc, sx, by omega, by go_num, rfl, hkx2, lgk, ⟨HSV.out.below hnc.out⟩, ⟨HXV.out.below hnc.out⟩, HMx, ⟨HBV.out.trans (hnc.out.mono HBV.out.size)⟩⟩
        case measure => simp [intOf]; omega
      · have k0 := pw_cell_below HB.out K.out.1
        have k1 := pw_cell_below HB.out K.out.2.1
        have k2 := pw_cell_below HB.out K.out.2.2.1
        have k3 := pw_cell_below HB.out K.out.2.2.2
        have hro : ∀ w6, Chg k wr w6 → ReadsInt w6 .u8 A4 L o.Data := fun w6 hc => HRw.out.below (HB.out.trans (hc.below lgk HB.out.size))
        go_wp2_with fail
        (with_reducible refine (take_eq w.heap.size k s o.Ctl o.Dest o.Src A4 L c4 o.Data _ sx an b2 fa fb fd HT.out HFv.out HS.out hro (by omega)).mono ?_)
        rintro _ w5 ⟨v5, rfl, ho5, hs5, hc5⟩
        rw [HD.out, HLD.out] at ho5
        obtain ⟨A5, c5, rfl, hr5⟩ := own_reads ho5
        have HS5 := Aside0.mk hs5
        have HX5 := Aside0.mk (HX2.out.other hc5 (Ne.symm hkx))
        have HB5 := Aside0.mk (HB.out.trans (hc5.below lgk HB.out.size))
        have HR5 := Aside0.mk hr5
        have HO5 := Aside0.mk ho5
        clear k0 k1 k2 k3 hro ho5 hr5 hs5 hc5
        have k0 := fun o1 => pw_cell_below (below_alloc HB5.out o1) K.out.1
        have k1 := fun o1 => pw_cell_below (below_alloc HB5.out o1) K.out.2.1
        have k2 := fun o1 => pw_cell_below (below_alloc HB5.out o1) K.out.2.2.1
        have k3 := fun o1 => pw_cell_below (below_alloc HB5.out o1) K.out.2.2.2
        go_wp2_with fail
        (with_reducible refine (plain_any o.Ctl o.Dest o.Src A4 L c4 _).mono ?_)
        rintro _ w6 ⟨rfl, hb6⟩
        have hA6 := blk_below (heap_alloc_new w5 _) hb6
        have HB56 := Aside0.mk (below_two (below_alloc (Below.refl _ _) _) hb6)
        have HA6 := Aside0.mk hA6
        have lw5 := HB5.out.size
        have hro : ∀ w7, Chg gx w6 w7 → ReadsInt w7 .u8 A4 L o.Data := fun w7 hc => HRw.out.below ((HB5.out.trans (HB56.out.mono HB5.out.size)).trans (hc.below lgx (Nat.le_trans HB5.out.size HB56.out.size)))
        have hx6 := HX5.out.below HB56.out
        have lgx5 := HX5.out.lt
        clear hb6 hA6 k0 k1 k2 k3
        go_wp2_with fail
        (with_reducible refine (rtake_eq w.heap.size gx s o.Ctl o.Dest o.Src A4 L c4 o.Data _ sx an b2 fa fb fd HT.out HFv.out hx6 hro (by omega)).mono ?_)
        rintro _ w7 ⟨v7, rfl, ho7, hs7, hc7⟩
        rw [HD.out, HLD.out] at ho7
        obtain ⟨A7, c7, rfl, hr7⟩ := own_reads ho7
        have hc57 : Chg gx w5 w7 := (Chg.of_below HB56.out).trans hc7
        have HX7 := Aside0.mk hs7
        have HS7 := Aside0.mk (HS5.out.other hc57 hkx)
        have HR7 := Aside0.mk hr7
        have HR57 := Aside0.mk (own_reads_of (own_chg HO5.out HX5.out.1 (by decide) hc57))
        have HA7 := Aside0.mk ((hc7.block w5.heap.size (blk_lt HA6.out) (by omega)).trans HA6.out)
        have HB7 := Aside0.mk (HB5.out.trans (hc57.below lgx HB5.out.size))
        clear ho7 hr7 hs7 hc7 hc57 hro hx6
        obtain ⟨up, hup⟩ : ∃ b, sx.ready = b := ⟨_, rfl⟩
        obtain ⟨fc, hfc⟩ : ∃ b, (sx.ready && sx.expect) = b := ⟨_, rfl⟩
        go_wp2_with fail
        (with_reducible refine (state_as _ k sx up fc _ (HS7.out.below (below_alloc (Below.refl _ _) _)) hup hfc).mono ?_)
        rintro _ w8 ⟨rfl, m8, hw8⟩
        have hbs : Below w7.heap.size w7 w8 := by rw [hw8]; exact pw_below_drewN (below_alloc (Below.refl _ _) _) m8
        have HAV := Aside0.mk (blk_below HA7.out hbs)
        have HPV := Aside0.mk (show w8.heap[w7.heap.size]? = some (.cells #[.int .i64 fa, .int .i64 fb, .int .i64 fd, .slice none 0 0] 48 (0, 0)) by rw [hw8]; exact heap_alloc_new w7 _)
        have HXV := Aside0.mk (HX7.out.below hbs)
        have HSV := Aside0.mk (HS7.out.below hbs)
        have HBV := Aside0.mk (HB7.out.trans (hbs.mono HB7.out.size))
        have HRV := Aside0.mk (HR7.out.below hbs)
        have HR5V := Aside0.mk (HR57.out.below hbs)
        clear hw8 hbs
        have hgV : w8.heap[gx]? = some (.cells #[.int .i64 sx.own, .int .i64 sx.master, .bool up, .bool fc] 46 (0, 0)) := by have h := HXV.out.1; rw [hfc, hup] at h; exact h
        have HGV := Aside0.mk hgV
        clear hgV
        go_wp2
        go_region_held3 (fun w' => Aside0 (Below w8.heap.size w8 w') ∧ w'.cell? ⟨w5.heap.size, 0, none⟩ = some (.int .i64 fa) ∧ w'.cell? ⟨w5.heap.size, 1, none⟩ = some (.int .i64 fb) ∧ w'.cell? ⟨w5.heap.size, 2, none⟩ = some (.int .i64 fd) ∧ w'.cell? ⟨w5.heap.size, 3, none⟩ = some (.slice none 0 0) ∧ w'.cell? ⟨w7.heap.size, 0, none⟩ = some (.int .i64 fa) ∧ w'.cell? ⟨w7.heap.size, 1, none⟩ = some (.int .i64 fb) ∧ w'.cell? ⟨w7.heap.size, 2, none⟩ = some (.int .i64 fd) ∧ w'.cell? ⟨w7.heap.size, 3, none⟩ = some (.slice none 0 0) ∧ w'.cell? ⟨gx, 2, none⟩ = some (.bool up) ∧ w'.cell? ⟨gx, 3, none⟩ = some (.bool fc))
          (first
            | exact factsL HAV.out HPV.out HGV.out (Below.refl _ _)
            | exact factsL HAV.out HPV.out HGV.out (below_drew (Below.refl _ _))
            | exact factsL HAV.out HPV.out HGV.out (Aside0.out (by assumption)))
          (first
            | (go_at_call 21; (with_reducible refine (plain_any fa fb fd none 0 0 _).mono ?_); rintro e wb ⟨rfl, hbb⟩; have hnb : Aside0 (Below w8.heap.size w8 wb) := nextL (by assumption) hbb; clear hbb)
            | (go_at_call 22; (with_reducible refine (rsame_nil fa fb fd _).mono ?_); rintro e wc ⟨rfl, hbc⟩; have hnc : Aside0 (Below w8.heap.size w8 wc) := nextL (by assumption) hbc; clear hbc)
            | (go_at_call 13; (with_reducible refine (bytes_same A5 A7 LD LD c5 c7 D _ ?_ ?_ HBy.out).mono ?_); (exact readsL HR5V.out (by assumption)); (exact readsL HRV.out (by assumption)); rintro e wd ⟨rfl, rfl⟩))
        go_wp2
        have hkx2 : k ≠ gx := hkx
        go_round
        case rel => exact ⟨j + 1, k, sx, by omega, by go_num, rfl, hkx2, lgk, ⟨HSV.out.below hnc.out⟩, ⟨HXV.out.below hnc.out⟩, HMx, ⟨HBV.out.trans (hnc.out.mono HBV.out.size)⟩⟩
        case measure => simp [intOf]; omega
    · obtain rfl : j = n := by omega
      go_wp2_with fail
      (with_reducible refine (send_any w.heap.size k s A3 nx c3 d _ HS.out (HX.out.below HB.out) (by omega)).mono ?_)
      rintro _ w5 ⟨v5, rfl, ho5, hb5⟩
      obtain ⟨A5, c5, rfl, hr5⟩ := own_reads (show w5.ownsRow wr.heap.size 5 1 v5 nx (nums .u8 d) by rw [← HD.out]; exact ho5)
      have HO5 := Aside0.mk (show w5.ownsRow wr.heap.size 5 1 (.slice A5 nx c5) nx (nums .u8 d) by rw [← HD.out]; rw [← HD.out] at ho5; exact ho5)
      rw [HM.out.1, HM.out.2]
      have HR5 := Aside0.mk hr5
      have hs5 := HS.out.below hb5
      have HX5 := Aside0.mk (HX2.out.below hb5)
      have HB5 := Aside0.mk (HB.out.trans (hb5.mono HB.out.size))
      clear ho5 hr5 hb5
      have HV5 := Aside0.mk (heap_alloc_new w5 (.cells #[.int .i64 68, .int .i64 master, .int .i64 own, .slice A5 nx c5] 29))
      go_wp2_with fail
      (with_reducible refine (reset_any w.heap.size k _ _ (hs5.below (below_alloc (Below.refl _ _) _))).mono ?_)
      rintro _ w6 ⟨rfl, hs6, hc6⟩
      have lk5 := hs5.lt
      have lx5 := HX5.out.lt
      have hc56 : Chg k w5 w6 := ((Chg.refl k w5).alloc _).trans hc6
      have HV6 := Aside0.mk ((hc6.block w5.heap.size (by simp) (by omega)).trans HV5.out)
      have HX6 := Aside0.mk (HX5.out.other hc56 (Ne.symm hkx))
      have HB6 := Aside0.mk (HB5.out.trans (hc56.below lgk HB5.out.size))
      have HR6 := Aside0.mk (own_reads_of (own_chg (show w5.ownsRow wr.heap.size 5 1 (.slice A5 nx c5) nx (nums .u8 d) from HO5.out) hs5.1 (by decide) hc56))
      go_wp2_with fail
      (with_reducible refine (state_as _ k _ false false _ hs6 rfl rfl).mono ?_)
      rintro _ w7 ⟨rfl, m7, hw7⟩
      have hb67 : Below w6.heap.size w6 w7 := by rw [hw7]; exact pw_below_drewN (Below.refl _ _) m7
      clear hc6 hc56 hw7
      go_wp2_with fail
      (with_reducible refine (first_any _).mono ?_)
      rintro _ w8 ⟨rfl, hb78⟩
      have hb68 := below_two hb67 hb78
      have hv8 := blk_below HV6.out hb68
      have v0 := blk_cell hv8 0
      have v1 := blk_cell hv8 1
      have v2 := blk_cell hv8 2
      have v3 := blk_cell hv8 3
      simp only [List.getElem?_toArray, List.getElem?_cons_zero, List.getElem?_cons_succ] at v0 v1 v2 v3
      have HX8 := Aside0.mk (HX6.out.below hb68)
      have HR8 := Aside0.mk (HR6.out.below hb68)
      have HB8 := Aside0.mk (HB6.out.trans (hb68.mono HB6.out.size))
      clear hb67 hb78 hb68 hv8
      go_wp2_with fail
      (with_reducible refine (plain_any 68 master own A5 nx c5 _).mono ?_)
      rintro _ w9 ⟨rfl, hb9⟩
      have HX9 := HX8.out.below hb9
      have HR9 := Aside0.mk (HR8.out.below hb9)
      have HB9 := Aside0.mk (HB8.out.trans (hb9.mono HB8.out.size))
      clear hb9
      go_wp2_with fail
      (with_reducible refine (rsend_any w.heap.size gx s A3 nx c3 d _ HX9 (HX.out.below HB9.out) (by omega)).mono ?_)
      rintro _ wa ⟨va, rfl, hoa, hba⟩
      obtain ⟨Aa, ca, rfl, hra⟩ := own_reads (show wa.ownsRow w9.heap.size 5 1 va nx (nums .u8 d) by rw [← HD.out]; exact hoa)
      rw [HM.out.1, HM.out.2]
      have HRa := Aside0.mk hra
      have HR10 := Aside0.mk (HR9.out.below hba)
      have HBa := Aside0.mk (HB9.out.trans (hba.mono HB9.out.size))
      clear hoa hra hba
      go_wp2_with fail
      (with_reducible refine (rsame_same 68 master own A5 Aa nx c5 nx ca d _ HR10.out HRa.out hbx).mono ?_)
      rintro _ wb ⟨rfl, hbb⟩
      have HBb := Aside0.mk (HBa.out.trans (hbb.mono HBa.out.size))
      clear hbb
      go_wp2
      go_ret
      exact ⟨rfl, HBb.out⟩
end Go.Proofs.Ytpepgblmcjgbgaa
