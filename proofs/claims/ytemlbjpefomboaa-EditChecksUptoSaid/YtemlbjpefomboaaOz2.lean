/- edit: opening a Sized that came in. -/
import Derived.Test.YtemlbjpefomboaaOe
namespace Go.Proofs.Ytemlbjpefomboaa
open Go.RowKit Go.ChangeShapes Go.WideShapes Go.Proofs.YtemlbjpefomboaaW.PrintWords Go.Proofs.Ytemlbjpefomboaa.Pr
set_option linter.unusedVariables false
set_option maxRecDepth 100000 in
theorem open_sizedU {H : Type} {enc : TypeId × Value → H} {W : World} {base : Nat} {v : Value} {d : DataW H} {p : List MemPlace} (hv : Value.okWide Try.prog W .any base 38 v)
    (h : DataW.Trod enc Try.prog W 0 (fun _ => true) true 38 v d p) (_ : ∀ n ∈ d.weights Try.prog 38, n ≤ reachBytes) (hbk : Rows.uptoBulk d ≤ 1048576) :
    ∃ (A0 : Option Addr) (c0 : Nat) (st : List S80) (A1 : Option Addr) (c1 : Nat) (di : List Int) (A2 : Option Addr) (c2 : Nat) (ex : List Int) (o s : Int), v = .agg #[.slice A0 st.length c0, .slice A1 di.length c1, .slice A2 ex.length c2, .int .i64 o, .int .i64 s] ∧
      (EdI W A0 c0 st A1 c1 di A2 c2 ex ∧ st.length ≤ 1048576 ∧ di.length ≤ 1048576 ∧ ex.length ≤ 1048576 ∧ (-9223372036854775808 ≤ o ∧ o ≤ 9223372036854775807) ∧ (-9223372036854775808 ≤ s ∧ s ≤ 9223372036854775807)) := by
  obtain ⟨cs, rfl, hsz⟩ := okWide_struct Try.underlying38 hv
  have h5 : cs.size = 5 := hsz.trans (by kernel_rfl)
  obtain ⟨l⟩ := cs
  match l, h5 with
  | [v0, v1, v2, v3, v4], _ =>
    obtain ⟨fuel, hf⟩ := h
    obtain ⟨y0, y1, y2, n, hx, _, t0, t1, t2⟩ := Go.Deep.trod_struct3 Try.underlying38 hf
    have k28 : Try.prog.cellsOf 28 = 3 := by kernel_rfl
    have k3 : Try.prog.cellsOf 3 = 1 := by kernel_rfl
    simp only [k28, k3] at t0 t1 t2
    obtain ⟨z0, z1, z2, n', hz, _, u0, u1, u2⟩ := Go.Deep.trod_struct3 Try.underlying28 t0
    have k26 : Try.prog.cellsOf 26 = 1 := by kernel_rfl
    have k25 : Try.prog.cellsOf 25 = 1 := by kernel_rfl
    simp only [k26, k25] at u0 u1 u2
    obtain ⟨A0, c0, st, rfl, g0, g1, g2, g3⟩ := steps_of_trod (v := v0) u0
    obtain ⟨A1, c1, di, rfl, q1, q2⟩ := bytes_of_trod (v := v1) u1
    obtain ⟨A2, c2, ex, rfl, l1, l2⟩ := bytes_of_trod (v := v2) u2
    obtain ⟨o, ho, _, wo⟩ := DataW.trod_int Try.underlying3 t1
    obtain ⟨s, hs, _, ws⟩ := DataW.trod_int Try.underlying3 t2
    have e3 : v3 = .int .i64 o := (List.cons.inj ho).1
    have e4 : v4 = .int .i64 s := (List.cons.inj hs).1
    subst e3
    subst e4
    obtain ⟨hd, _⟩ := Prod.mk.inj hx
    obtain ⟨hd0, _⟩ := Prod.mk.inj hz
    subst hd
    simp only [Rows.uptoBulk, Rows.uptoBulkAll] at hbk
    rw [hz] at hbk
    simp only [Rows.uptoBulk, Rows.uptoBulkAll] at hbk
    exact ⟨A0, c0, st, A1, c1, di, A2, c2, ex, o, s, rfl, ⟨⟨g0, q1.r, l1.r, g1, q1.hc, l1.hc⟩, g2, q1.hr, l1.hr⟩, by omega, by omega, by omega, bounds_i64 wo, bounds_i64 ws⟩
end Go.Proofs.Ytemlbjpefomboaa
