/- edit: three edits as one argument, opened. -/
import Derived.Test.YtemlbjpefomboaaOe
namespace Go.Proofs.Ytemlbjpefomboaa
open Go.RowKit Go.ChangeShapes Go.WideShapes Go.Proofs.YtemlbjpefomboaaW.PrintWords Go.Proofs.Ytemlbjpefomboaa.Pr
set_option linter.unusedVariables false
theorem edit_of_trod {H : Type} {enc : TypeId × Value → H} {W : World} {fuel : Nat} {v0 v1 v2 : Value} {x : DataW H × List MemPlace} (h : DataW.trod enc Try.prog W 0 (fun _ => true) true fuel 28 [v0, v1, v2] = some x) :
    ∃ (A0 : Option Addr) (c0 : Nat) (st : List S80) (A1 : Option Addr) (c1 : Nat) (di : List Int) (A2 : Option Addr) (c2 : Nat) (ex : List Int), v0 = .slice A0 st.length c0 ∧ v1 = .slice A1 di.length c1 ∧ v2 = .slice A2 ex.length c2 ∧
      EdI W A0 c0 st A1 c1 di A2 c2 ex ∧ st.length + di.length + ex.length ≤ Rows.uptoBulk x.1 := by
  cases fuel with
  | zero => simp [DataW.trod] at h
  | succ fuel =>
  obtain ⟨z0, z1, z2, n', hz, _, u0, u1, u2⟩ := Go.Deep.trod_struct3 Try.underlying28 h
  have k26 : Try.prog.cellsOf 26 = 1 := by kernel_rfl
  have k25 : Try.prog.cellsOf 25 = 1 := by kernel_rfl
  simp only [k26, k25] at u0 u1 u2
  obtain ⟨A0, c0, st, rfl, g0, g1, g2, g3⟩ := steps_of_trod (v := v0) u0
  obtain ⟨A1, c1, di, rfl, q1, q2⟩ := bytes_of_trod (v := v1) u1
  obtain ⟨A2, c2, ex, rfl, l1, l2⟩ := bytes_of_trod (v := v2) u2
  refine ⟨A0, c0, st, A1, c1, di, A2, c2, ex, rfl, rfl, rfl, ⟨⟨g0, q1.r, l1.r, g1, q1.hc, l1.hc⟩, g2, q1.hr, l1.hr⟩, ?_⟩
  rw [hz]
  simp only [Rows.uptoBulk, Rows.uptoBulkAll]
  omega
set_option maxRecDepth 100000 in
theorem open_threeU {H : Type} {enc : TypeId × Value → H} {W : World} {base : Nat} {v : Value} {d : DataW H} {p : List MemPlace} (hv : Value.okWide Try.prog W .any base 75 v)
    (h : DataW.Trod enc Try.prog W 0 (fun _ => true) true 75 v d p) (_ : ∀ n ∈ d.weights Try.prog 75, n ≤ reachBytes) (hbk : Rows.uptoBulk d ≤ 1048576) :
    ∃ (A0 : Option Addr) (c0 : Nat) (s0 : List S80) (A1 : Option Addr) (c1 : Nat) (d0 : List Int) (A2 : Option Addr) (c2 : Nat) (x0 : List Int) (B0 : Option Addr) (e0 : Nat) (s1 : List S80) (B1 : Option Addr) (e1 : Nat) (d1 : List Int) (B2 : Option Addr) (e2 : Nat) (x1 : List Int)
      (C0 : Option Addr) (f0 : Nat) (s2 : List S80) (C1 : Option Addr) (f1 : Nat) (d2 : List Int) (C2 : Option Addr) (f2 : Nat) (x2 : List Int),
      v = .agg #[.slice A0 s0.length c0, .slice A1 d0.length c1, .slice A2 x0.length c2, .slice B0 s1.length e0, .slice B1 d1.length e1, .slice B2 x1.length e2, .slice C0 s2.length f0, .slice C1 d2.length f1, .slice C2 x2.length f2] ∧
      (EdI W A0 c0 s0 A1 c1 d0 A2 c2 x0 ∧ EdI W B0 e0 s1 B1 e1 d1 B2 e2 x1 ∧ EdI W C0 f0 s2 C1 f1 d2 C2 f2 x2 ∧ s0.length + d0.length + x0.length + (s1.length + d1.length + x1.length) + (s2.length + d2.length + x2.length) ≤ 1048576) := by
  obtain ⟨cs, rfl, hsz⟩ := okWide_struct Try.underlying75 hv
  have h9 : cs.size = 9 := hsz.trans (by kernel_rfl)
  obtain ⟨l⟩ := cs
  match l, h9 with
  | [v0, v1, v2, v3, v4, v5, v6, v7, v8], _ =>
    obtain ⟨fuel, hf⟩ := h
    obtain ⟨y0, y1, y2, n, hx, _, t0, t1, t2⟩ := Go.Deep.trod_struct3 Try.underlying75 hf
    have k28 : Try.prog.cellsOf 28 = 3 := by kernel_rfl
    simp only [k28] at t0 t1 t2
    obtain ⟨A0, c0, s0, A1, c1, d0, A2, c2, x0, rfl, rfl, rfl, E0, b0⟩ := edit_of_trod (v0 := v0) (v1 := v1) (v2 := v2) t0
    obtain ⟨B0, e0, s1, B1, e1, d1, B2, e2, x1, rfl, rfl, rfl, E1, b1⟩ := edit_of_trod (v0 := v3) (v1 := v4) (v2 := v5) t1
    obtain ⟨C0, f0, s2, C1, f1, d2, C2, f2, x2, rfl, rfl, rfl, E2, b2⟩ := edit_of_trod (v0 := v6) (v1 := v7) (v2 := v8) t2
    obtain ⟨hd, _⟩ := Prod.mk.inj hx
    subst hd
    simp only [Rows.uptoBulk, Rows.uptoBulkAll] at hbk
    exact ⟨A0, c0, s0, A1, c1, d0, A2, c2, x0, B0, e0, s1, B1, e1, d1, B2, e2, x1, C0, f0, s2, C1, f1, d2, C2, f2, x2, rfl, E0, E1, E2, by omega⟩
set_option maxRecDepth 100000 in
theorem open_threeW {H : Type} {enc : TypeId × Value → H} {W : World} {base : Nat} {v : Value} {d : DataW H} {p : List MemPlace} (hv : Value.okWide Try.prog W .any base 75 v)
    (h : DataW.Trod enc Try.prog W 0 (fun _ => true) true 75 v d p) (_ : ∀ n ∈ d.weights Try.prog 75, n ≤ reachBytes) :
    ∃ (A0 : Option Addr) (c0 : Nat) (s0 : List S80) (A1 : Option Addr) (c1 : Nat) (d0 : List Int) (A2 : Option Addr) (c2 : Nat) (x0 : List Int) (B0 : Option Addr) (e0 : Nat) (s1 : List S80) (B1 : Option Addr) (e1 : Nat) (d1 : List Int) (B2 : Option Addr) (e2 : Nat) (x1 : List Int)
      (C0 : Option Addr) (f0 : Nat) (s2 : List S80) (C1 : Option Addr) (f1 : Nat) (d2 : List Int) (C2 : Option Addr) (f2 : Nat) (x2 : List Int),
      v = .agg #[.slice A0 s0.length c0, .slice A1 d0.length c1, .slice A2 x0.length c2, .slice B0 s1.length e0, .slice B1 d1.length e1, .slice B2 x1.length e2, .slice C0 s2.length f0, .slice C1 d2.length f1, .slice C2 x2.length f2] ∧
      (EdI W A0 c0 s0 A1 c1 d0 A2 c2 x0 ∧ EdI W B0 e0 s1 B1 e1 d1 B2 e2 x1 ∧ EdI W C0 f0 s2 C1 f1 d2 C2 f2 x2) := by
  obtain ⟨cs, rfl, hsz⟩ := okWide_struct Try.underlying75 hv
  have h9 : cs.size = 9 := hsz.trans (by kernel_rfl)
  obtain ⟨l⟩ := cs
  match l, h9 with
  | [v0, v1, v2, v3, v4, v5, v6, v7, v8], _ =>
    obtain ⟨fuel, hf⟩ := h
    obtain ⟨y0, y1, y2, n, hx, _, t0, t1, t2⟩ := Go.Deep.trod_struct3 Try.underlying75 hf
    have k28 : Try.prog.cellsOf 28 = 3 := by kernel_rfl
    simp only [k28] at t0 t1 t2
    obtain ⟨A0, c0, s0, A1, c1, d0, A2, c2, x0, rfl, rfl, rfl, E0, b0⟩ := edit_of_trod (v0 := v0) (v1 := v1) (v2 := v2) t0
    obtain ⟨B0, e0, s1, B1, e1, d1, B2, e2, x1, rfl, rfl, rfl, E1, b1⟩ := edit_of_trod (v0 := v3) (v1 := v4) (v2 := v5) t1
    obtain ⟨C0, f0, s2, C1, f1, d2, C2, f2, x2, rfl, rfl, rfl, E2, b2⟩ := edit_of_trod (v0 := v6) (v1 := v7) (v2 := v8) t2
    exact ⟨A0, c0, s0, A1, c1, d0, A2, c2, x0, B0, e0, s1, B1, e1, d1, B2, e2, x1, C0, f0, s2, C1, f1, d2, C2, f2, x2, rfl, E0, E1, E2⟩
end Go.Proofs.Ytemlbjpefomboaa
