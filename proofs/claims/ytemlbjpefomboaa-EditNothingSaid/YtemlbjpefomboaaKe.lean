/- edit: kept, where a lent edit is as it was. -/
import Derived.Test.YtemlbjpefomboaaRw
import Derived.Test.YtemlbjpefomboaaE3
namespace Go.Proofs.Ytemlbjpefomboaa
open Go.RowKit Go.Shelf Go.Proofs.YtemlbjpefomboaaW.PrintWords Go.Proofs.YtemlbjpefomboaaW.PrintLast Go.Proofs.YtemlbjpefomboaaW.PrintMore Go.Proofs.Ytemlbjpefomboaa.Pr
set_option linter.unusedVariables false
set_option linter.unusedSimpArgs false
theorem alike_l0 (st : List S80) (d x : List Int) (hf : fits st) : ∀ (j i : Nat), i + j = st.length → sapperref16_Alike.l0 (j + 1) i st d x st d x = some true
  | 0, i, hi => by
    rw [sapperref16_Alike.l0, if_neg (by omega)]
  | j + 1, i, hi => by
    have hf' := hf
    unfold fits at hf
    rw [sapperref16_Alike.l0, if_pos (by omega), if_pos (by omega), if_pos (by omega), if_neg (by simp), w64 _ (by omega), show ((i : Int) + 1) = ((i + 1 : Nat) : Int) by omega]
    exact alike_l0 st d x hf' j (i + 1) (by omega)
theorem alike_self (st : List S80) (d x : List Int) (hf : fits st) : ∃ k, sapperref16_Alike.f k st d x st d x = some true := by
  refine ⟨st.length + 1 + 1, ?_⟩
  unfold sapperref16_Alike.f
  rw [if_pos rfl, if_pos rfl, sapperref16_Alike.j0, if_neg (by simp)]
  exact alike_l0 st d x hf st.length 0 (by omega)
theorem Lent.edc {W : World} {A0 : Option Addr} {c0 : Nat} {st : List S80} {A1 : Option Addr} {c1 : Nat} {d : List Int} {A2 : Option Addr} {c2 : Nat} {x : List Int} (h : Lent W A0 c0 st A1 c1 d A2 c2 x) : EdC W A0 c0 st A1 c1 d A2 c2 x := by
  have h0 := Kd.C_take h.s (m := st.length) (by simp)
  have h1 := Kd.C_take h.di (m := d.length) (by simp)
  have h2 := Kd.C_take h.ex (m := x.length) (by simp)
  rw [List.take_left] at h0 h1 h2
  exact ⟨h0, h1, h2, by have := h.hs; omega, by have := h.hd; omega, by have := h.hx; omega⟩
theorem Lent.below {W W' : World} {A0 : Option Addr} {c0 : Nat} {st : List S80} {A1 : Option Addr} {c1 : Nat} {d : List Int} {A2 : Option Addr} {c2 : Nat} {x : List Int} (h : Lent W A0 c0 st A1 c1 d A2 c2 x) (hb : Below W.heap.size W W') : Lent W' A0 c0 st A1 c1 d A2 c2 x :=
  ⟨Kd.C_below h.s hb, Kd.C_below h.di hb, Kd.C_below h.ex hb, h.hs, h.hd, h.hx, h.t0.below hb, h.t1.below hb, h.t2.below hb⟩
theorem Lent.cells {W : World} {A0 : Option Addr} {c0 : Nat} {st : List S80} {A1 : Option Addr} {c1 : Nat} {d : List Int} {A2 : Option Addr} {c2 : Nat} {x : List Int} (h : Lent W A0 c0 st A1 c1 d A2 c2 x) :
    ∃ a0 a1 a2, A0 = some a0 ∧ A1 = some a1 ∧ A2 = some a2 ∧ W.cell? (a0.add (st.length * 3)) = some (.int .i64 71) ∧ W.cell? (a0.add ((st.length + 1) * 3)) = some (.int .i64 72) ∧
      W.cell? (a1.add d.length) = some (.int .u8 73) ∧ W.cell? (a1.add (d.length + 1)) = some (.int .u8 74) ∧ W.cell? (a2.add x.length) = some (.int .u8 75) ∧ W.cell? (a2.add (x.length + 1)) = some (.int .u8 76) := by
  obtain ⟨a0, e0, g0, _, _⟩ := at_T80 h.s (st.length : Int) (by omega) (by simp [lentS] <;> omega)
  obtain ⟨a0', e0', g1, _, _⟩ := at_T80 h.s ((st.length + 1 : Nat) : Int) (by omega) (by simp [lentS] <;> omega)
  obtain ⟨a1, e1, g2⟩ := Kd.at_int h.di (d.length : Int) (by omega) (by simp <;> omega)
  obtain ⟨a1', e1', g3⟩ := Kd.at_int h.di ((d.length + 1 : Nat) : Int) (by omega) (by simp <;> omega)
  obtain ⟨a2, e2, g4⟩ := Kd.at_int h.ex (x.length : Int) (by omega) (by simp <;> omega)
  obtain ⟨a2', e2', g5⟩ := Kd.at_int h.ex ((x.length + 1 : Nat) : Int) (by omega) (by simp <;> omega)
  subst e0 e1 e2
  cases e0'
  cases e1'
  cases e2'
  refine ⟨a0, a1, a2, rfl, rfl, rfl, ?_, ?_, ?_, ?_, ?_, ?_⟩
  · simpa [rd_T80, lentS] using g0
  · simpa [rd_T80, lentS] using g1
  · simpa [rd] using g2
  · simpa [rd] using g3
  · simpa [rd] using g4
  · simpa [rd] using g5
set_option maxRecDepth 100000 in
set_option maxHeartbeats 8000000 in
theorem kept_c {B0 : Option Addr} {e0 : Nat} {B1 : Option Addr} {e1 : Nat} {B2 : Option Addr} {e2 : Nat} {A0 : Option Addr} {c0 : Nat} {st : List S80} {A1 : Option Addr} {c1 : Nat} {d : List Int} {A2 : Option Addr} {c2 : Nat} {x : List Int} {w : World}
    (hL : Lent w B0 e0 st B1 e1 d B2 e2 x) (hE : EdC w A0 c0 st A1 c1 d A2 c2 x) :
    Calls Try.prog 27 #[EdV B0 st.length e0 B1 d.length e1 B2 x.length e2, EdV A0 st.length c0 A1 d.length c1 A2 x.length c2] w fun e w' => e = .returned (.bool true) ∧ Below w.heap.size w w' := by
  unfold EdV
  have hb0 : Below w.heap.size w ((w.alloc (.cells #[.slice B0 st.length e0, .slice B1 d.length e1, .slice B2 x.length e2] 28)).alloc (.cells #[.slice A0 st.length c0, .slice A1 d.length c1, .slice A2 x.length c2] 28)) := ((Below.refl _ _).alloc (Nat.le_refl _) _).alloc (by simp) _
  have HL := Hd.mk (hL.below hb0)
  have HE := Hd.mk (hE.below hb0)
  have HB := Hd.mk hb0
  have hs1 := hL.s.2.1
  have hd1 := hL.di.2.1
  have hx1 := hL.ex.2.1
  have hs2 := hL.hs
  have hd2 := hL.hd
  have hx2 := hL.hx
  simp [lentS] at hs1 hd1 hx1
  obtain ⟨a0, a1, a2, rfl, rfl, rfl, g0, g1, g2, g3, g4, g5⟩ := HL.out.cells
  have g3' := g3
  have g5' := g5
  simp only [Addr.add, Nat.add_one_ne_zero, if_false] at g3' g5'
  clear hb0 hL hE
  go_enter Try.func27, Try.ntmps27
  go_wp2_with fail
  go_quiet (fail)
  go_wp2_with fail
  go_quiet (fail)
  go_wp2_with fail
  obtain ⟨k, hk⟩ := alike_self st d x (by unfold fits; omega)
  have hEL := HL.out.edc
  have hbd : ∀ n, Below (((w.alloc (.cells #[.slice (some a0) st.length e0, .slice (some a1) d.length e1, .slice (some a2) x.length e2] 28)).alloc (.cells #[.slice A0 st.length c0, .slice A1 d.length c1, .slice A2 x.length c2] 28)).heap.size) ((w.alloc (.cells #[.slice (some a0) st.length e0, .slice (some a1) d.length e1, .slice (some a2) x.length e2] 28)).alloc (.cells #[.slice A0 st.length c0, .slice A1 d.length c1, .slice A2 x.length c2] 28)) (((w.alloc (.cells #[.slice (some a0) st.length e0, .slice (some a1) d.length e1, .slice (some a2) x.length e2] 28)).alloc (.cells #[.slice A0 st.length c0, .slice A1 d.length c1, .slice A2 x.length c2] 28)).drewN n) := fun n => pw_below_drewN (Below.refl _ _) n
  refine (sapperref16_Alike.calls k (some a0) e0 st (some a1) e1 d (some a2) e2 x A0 c0 st A1 c1 d A2 c2 x true _ (Kd.C_below hEL.s (hbd _)) hEL.hs (Kd.C_below hEL.di (hbd _)) hEL.hd (Kd.C_below hEL.ex (hbd _)) hEL.hx (Kd.C_below HE.out.s (hbd _)) HE.out.hs (Kd.C_below HE.out.di (hbd _)) HE.out.hd (Kd.C_below HE.out.ex (hbd _)) HE.out.hx hk).mono ?_
  rintro e w1 ⟨rfl, hb1⟩
  have HB1 := Hd.mk (below_step (below_step HB.out (hbd _)) hb1)
  clear hb1 hbd hEL hk
  go_wp2
  go_ret
  exact ⟨rfl, HB1.out⟩
end Go.Proofs.Ytemlbjpefomboaa
