/- edit: what was lent, where slices are stored into a box beside it. -/
import Derived.Test.YtemlbjpefomboaaKe
namespace Go.Proofs.Ytemlbjpefomboaa
open Go.RowKit Go.Shelf Go.Proofs.YtemlbjpefomboaaW.PrintWords Go.Proofs.YtemlbjpefomboaaW.PrintLast Go.Proofs.YtemlbjpefomboaaW.PrintMore Go.Proofs.Ytemlbjpefomboaa.Pr
set_option linter.unusedVariables false
set_option linter.unusedSimpArgs false
/-- A box of three slices. -/
def Box3 (W : World) (b : Nat) : Prop := ∃ A0 n0 c0 A1 n1 c1 A2 n2 c2, W.heap[b]? = some (.cells #[.slice A0 n0 c0, .slice A1 n1 c1, .slice A2 n2 c2] 28 (0, 0))
theorem Box3.no_int {W : World} {b : Nat} (h : Box3 W b) {a : Addr} {k : IntKind} {z : Int} (ha : W.cell? a = some (.int k z)) : a.block ≠ b := by
  obtain ⟨A0, n0, c0, A1, n1, c1, A2, n2, c2, h⟩ := h
  intro e
  unfold World.cell? at ha
  rw [e, h] at ha
  simp only at ha
  split at ha
  · cases ha
  · match ho : a.off, ha with
    | 0, ha => simp [ho] at ha
    | 1, ha => simp [ho] at ha
    | 2, ha => simp [ho] at ha
    | q + 3, ha => simp [ho] at ha
theorem Box3.set {W : World} {b : Nat} (h : Box3 W b) {j : Nat} (hj : j < 3) (A : Option Addr) (n c : Nat) : Box3 (W.setCell ⟨b, j, none⟩ (.slice A n c)) b := by
  obtain ⟨A0, n0, c0, A1, n1, c1, A2, n2, c2, h⟩ := h
  have := blk_set h j (.slice A n c)
  match j, hj with
  | 0, _ => exact ⟨_, _, _, _, _, _, _, _, _, by simpa using this⟩
  | 1, _ => exact ⟨_, _, _, _, _, _, _, _, _, by simpa using this⟩
  | 2, _ => exact ⟨_, _, _, _, _, _, _, _, _, by simpa using this⟩
theorem Box3.far {W : World} {b b' : Nat} (h : Box3 W b) (hne : b ≠ b') (j : Nat) (v : Value) : Box3 (W.setCell ⟨b', j, none⟩ v) b := by
  obtain ⟨A0, n0, c0, A1, n1, c1, A2, n2, c2, h⟩ := h
  exact ⟨_, _, _, _, _, _, _, _, _, blk_far h (p := ⟨b', j, none⟩) hne v⟩
theorem C_set {α : Type} {d : Kd α} {W : World} {A : Option Addr} {n b j : Nat} {xs : List α} (h : Kd.C d W A n xs) (hb : Box3 W b) (hK : ∀ x cs, d.K W x cs → ∀ u ∈ cs, ∃ k z, u = .int k z) (hK2 : ∀ x cs W', d.K W x cs → d.K W' x cs) (v : Value) : Kd.C d (W.setCell ⟨b, j, none⟩ v) A n xs := by
  obtain ⟨h1, h2, h3⟩ := h
  refine ⟨h1, h2, fun hn => ?_⟩
  obtain ⟨ad, e, h4⟩ := h3 hn
  refine ⟨ad, e, fun q p hp => ?_⟩
  obtain ⟨c, g1, g2, g3⟩ := h4 q p hp
  refine ⟨c, g1, hK2 _ _ _ g2, fun i u hi => ?_⟩
  have hc := g3 i u hi
  obtain ⟨k, z, rfl⟩ := hK _ _ g2 u (List.mem_of_getElem? hi)
  exact (cell_far (p := ⟨b, j, none⟩) (hb.no_int hc) v).trans hc
theorem k80_ints {W : World} {x : S80} {cs : List Value} (h : k80.K W x cs) : ∀ u ∈ cs, ∃ k z, u = .int k z := by
  obtain rfl := k80_open h
  intro u hu
  simp at hu
  rcases hu with rfl | rfl | rfl <;> exact ⟨_, _, rfl⟩
theorem Typd.set {W : World} {A : Option Addr} {t : TypeId} {b j : Nat} (h : Typd W A t) (hb : Box3 W b) (hne : t ≠ 28) (v : Value) : Typd (W.setCell ⟨b, j, none⟩ v) A t := by
  obtain ⟨A0, n0, c0, A1, n1, c1, A2, n2, c2, hb⟩ := hb
  intro a ha
  obtain ⟨cur, hc⟩ := h a ha
  exact ⟨cur, blk_far (p := ⟨b, j, none⟩) hc (h.ne hb hne a ha) v⟩
theorem Lent.set {W : World} {A0 : Option Addr} {c0 : Nat} {st : List S80} {A1 : Option Addr} {c1 : Nat} {d : List Int} {A2 : Option Addr} {c2 : Nat} {x : List Int} {b j : Nat} (h : Lent W A0 c0 st A1 c1 d A2 c2 x) (hb : Box3 W b) (v : Value) : Lent (W.setCell ⟨b, j, none⟩ v) A0 c0 st A1 c1 d A2 c2 x := by
  have hi : ∀ (z : Int) (cs : List Value), (Kd.int .u8).K W z cs → ∀ u ∈ cs, ∃ k z, u = .int k z := by
    intro z cs hz u hu
    have hz : cs = [.int .u8 z] := hz
    rw [hz] at hu
    simp at hu
    exact ⟨_, _, hu⟩
  refine ⟨C_set h.s hb (fun _ _ => k80_ints) (fun x cs W' hx => ?_) v, C_set h.di hb hi (fun x cs W' hx => hx) v, C_set h.ex hb hi (fun x cs W' hx => hx) v, h.hs, h.hd, h.hx, h.t0.set hb (by decide) v, h.t1.set hb (by decide) v, h.t2.set hb (by decide) v⟩
  obtain rfl := k80_open hx
  exact k80_mk W' x
theorem blk3s {w : World} {b : Nat} {u0 u1 u2 : Value} {t : TypeId} (h : w.heap[b]? = some (.cells #[u0, u1, u2] t (0, 0))) (s0 s1 s2 : Value) :
    (((w.setCell ⟨b, 0, none⟩ s0).setCell ⟨b, 1, none⟩ s1).setCell ⟨b, 2, none⟩ s2).heap[b]? = some (.cells #[s0, s1, s2] t (0, 0)) := by
  have := blk_set (blk_set (blk_set h 0 s0) 1 s1) 2 s2
  simpa using this
/-- Two edits stored into two new boxes. -/
theorem two_stored {wb W : World} {b7 b8 : Nat} {K0 : Option Addr} {k0 : Nat} {st : List S80} {K1 : Option Addr} {k1 : Nat} {d : List Int} {K2 : Option Addr} {k2 : Nat} {x : List Int} {M0 : Option Addr} {m0 : Nat} {sb : List S80} {M1 : Option Addr} {m1 : Nat} {db : List Int} {M2 : Option Addr} {m2 : Nat} {xb : List Int}
    (h7 : W.heap[b7]? = some (.cells #[.slice none 0 0, .slice none 0 0, .slice none 0 0] 28 (0, 0))) (h8 : W.heap[b8]? = some (.cells #[.slice none 0 0, .slice none 0 0, .slice none 0 0] 28 (0, 0))) (hne : b7 ≠ b8)
    (L1 : Lent W K0 k0 st K1 k1 d K2 k2 x) (L3 : Lent W M0 m0 sb M1 m1 db M2 m2 xb) (hB : Below wb.heap.size wb W) (hs7 : wb.heap.size ≤ b7) (hs8 : wb.heap.size ≤ b8) :
    ∃ W', (((((W.setCell ⟨b7, 0, none⟩ (.slice K0 st.length k0)).setCell ⟨b7, 1, none⟩ (.slice K1 d.length k1)).setCell ⟨b7, 2, none⟩ (.slice K2 x.length k2)).setCell ⟨b8, 0, none⟩ (.slice M0 sb.length m0)).setCell ⟨b8, 1, none⟩ (.slice M1 db.length m1)).setCell ⟨b8, 2, none⟩ (.slice M2 xb.length m2) = W' ∧
      Lent W' K0 k0 st K1 k1 d K2 k2 x ∧ Lent W' M0 m0 sb M1 m1 db M2 m2 xb ∧ W'.heap[b7]? = some (.cells #[.slice K0 st.length k0, .slice K1 d.length k1, .slice K2 x.length k2] 28 (0, 0)) ∧
      W'.heap[b8]? = some (.cells #[.slice M0 sb.length m0, .slice M1 db.length m1, .slice M2 xb.length m2] 28 (0, 0)) ∧ Below wb.heap.size wb W' := by
  have x7 : Box3 W b7 := ⟨_, _, _, _, _, _, _, _, _, h7⟩
  have x8 : Box3 W b8 := ⟨_, _, _, _, _, _, _, _, _, h8⟩
  have y0 := x7.set (j := 0) (by decide) K0 st.length k0
  have y1 := y0.set (j := 1) (by decide) K1 d.length k1
  have v8 := ((x8.far hne.symm 0 (.slice K0 st.length k0)).far hne.symm 1 (.slice K1 d.length k1)).far hne.symm 2 (.slice K2 x.length k2)
  have v9 := v8.set (j := 0) (by decide) M0 sb.length m0
  have v10 := v9.set (j := 1) (by decide) M1 db.length m1
  have e7 := blk3s h7 (.slice K0 st.length k0) (.slice K1 d.length k1) (.slice K2 x.length k2)
  have e8 : (((W.setCell ⟨b7, 0, none⟩ (.slice K0 st.length k0)).setCell ⟨b7, 1, none⟩ (.slice K1 d.length k1)).setCell ⟨b7, 2, none⟩ (.slice K2 x.length k2)).heap[b8]? = some (.cells #[.slice none 0 0, .slice none 0 0, .slice none 0 0] 28 (0, 0)) :=
    blk_far (blk_far (blk_far h8 hne.symm _) hne.symm _) hne.symm _
  exact ⟨_, rfl, (((((L1.set x7 _).set y0 _).set y1 _).set v8 _).set v9 _).set v10 _, (((((L3.set x7 _).set y0 _).set y1 _).set v8 _).set v9 _).set v10 _,
    blk_far (blk_far (blk_far e7 hne _) hne _) hne _, blk3s e8 _ _ _, (((((hB.setCell hs7 _).setCell hs7 _).setCell hs7 _).setCell hs8 _).setCell hs8 _).setCell hs8 _⟩
theorem none3 {W : World} {b : Nat} (h : W.heap[b]? = some (.cells #[.slice none 0 0, .slice none 0 0, .slice none 0 0] 28 (0, 0))) :
    W.cell? ⟨b, 0, none⟩ = some (.slice none 0 0) ∧ W.cell? ⟨b, 1, none⟩ = some (.slice none 0 0) ∧ W.cell? ⟨b, 2, none⟩ = some (.slice none 0 0) ∧ W.frozen? ⟨b, 0, none⟩ = false ∧ W.frozen? ⟨b, 1, none⟩ = false ∧ W.frozen? ⟨b, 2, none⟩ = false :=
  ⟨(blk_cell h 0).trans rfl, (blk_cell h 1).trans rfl, (blk_cell h 2).trans rfl, blk_frozen h 0, blk_frozen h 1, blk_frozen h 2⟩
theorem far6 {W W' : World} (hb : Below W.heap.size W W') {a1 a2 a3 a4 a5 a6 : Addr} {v1 v2 v3 v4 v5 v6 : Value} (h : W.cell? a1 = some v1 ∧ W.cell? a2 = some v2 ∧ W.cell? a3 = some v3 ∧ W.cell? a4 = some v4 ∧ W.cell? a5 = some v5 ∧ W.cell? a6 = some v6) :
    W'.cell? a1 = some v1 ∧ W'.cell? a2 = some v2 ∧ W'.cell? a3 = some v3 ∧ W'.cell? a4 = some v4 ∧ W'.cell? a5 = some v5 ∧ W'.cell? a6 = some v6 :=
  ⟨pw_cell_below hb h.1, pw_cell_below hb h.2.1, pw_cell_below hb h.2.2.1, pw_cell_below hb h.2.2.2.1, pw_cell_below hb h.2.2.2.2.1, pw_cell_below hb h.2.2.2.2.2⟩
/-- A new box for an edit. -/
theorem newbox (W : World) : ∃ b W', b = W.heap.size ∧ W.alloc (.cells #[.slice none 0 0, .slice none 0 0, .slice none 0 0] 28) = W' ∧ Below W.heap.size W W' ∧ W'.heap[b]? = some (.cells #[.slice none 0 0, .slice none 0 0, .slice none 0 0] 28 (0, 0)) :=
  ⟨_, _, rfl, rfl, (Below.refl _ _).alloc (Nat.le_refl _) _, blk_new W _⟩
theorem far3 {W W' : World} (hb : Below W.heap.size W W') {a1 a2 a3 : Addr} {v1 v2 v3 : Value} (h : W.cell? a1 = some v1 ∧ W.cell? a2 = some v2 ∧ W.cell? a3 = some v3) : W'.cell? a1 = some v1 ∧ W'.cell? a2 = some v2 ∧ W'.cell? a3 = some v3 :=
  ⟨pw_cell_below hb h.1, pw_cell_below hb h.2.1, pw_cell_below hb h.2.2⟩
end Go.Proofs.Ytemlbjpefomboaa
