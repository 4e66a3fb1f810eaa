/- vcd: opening a call of a cache; VcdNone of it. -/
import Derived.Test.YtmfnjmecnhagmaaWo
namespace Go.Proofs.Ytmfnjmecnhagmaa
open Go.RowKit Go.ChangeShapes Go.WideShapes Go.Shelf Go.Proofs.YtmfnjmecnhagmaaW.PrintWords Go.Proofs.YtmfnjmecnhagmaaW.PrintLast Go.Proofs.YtmfnjmecnhagmaaW.PrintMore Go.Proofs.Ytmfnjmecnhagmaa.Pr
set_option linter.unusedVariables false
set_option linter.unusedSimpArgs false
section
variable {H : Type} {enc : TypeId × Value → H} {P : Program} {w : World} {base : Nat} {spare : Nat → Bool} {held : Bool}
theorem trod_struct6 {t : TypeId} {f0 f1 f2 f3 f4 f5 : Field} {fuel : Nat} {cs : List Value} {x : DataW H × List MemPlace} (ht : P.underlying t = some (.struct #[f0, f1, f2, f3, f4, f5])) (h : DataW.trod enc P w base spare held fuel t cs = some x) :
    ∃ y0 y1 y2 y3 y4 y5 n, DataW.trod enc P w base spare held n f0.type ((cs.drop f0.offset).take (P.cellsOf f0.type)) = some y0 ∧ DataW.trod enc P w base spare held n f1.type ((cs.drop f1.offset).take (P.cellsOf f1.type)) = some y1 ∧
      DataW.trod enc P w base spare held n f2.type ((cs.drop f2.offset).take (P.cellsOf f2.type)) = some y2 ∧ DataW.trod enc P w base spare held n f3.type ((cs.drop f3.offset).take (P.cellsOf f3.type)) = some y3 ∧
      DataW.trod enc P w base spare held n f4.type ((cs.drop f4.offset).take (P.cellsOf f4.type)) = some y4 ∧ DataW.trod enc P w base spare held n f5.type ((cs.drop f5.offset).take (P.cellsOf f5.type)) = some y5 := by
  obtain ⟨xs, n, _, rfl, hl, hlen, hf⟩ := DataW.trod_struct ht h
  match xs, hlen with
  | [y0, y1, y2, y3, y4, y5], _ => exact ⟨y0, y1, y2, y3, y4, y5, n, by simpa using hf 0 f0 rfl, by simpa using hf 1 f1 rfl, by simpa using hf 2 f2 rfl, by simpa using hf 3 f3 rfl, by simpa using hf 4 f4 rfl, by simpa using hf 5 f5 rfl⟩
end
set_option maxRecDepth 100000 in
theorem open_call {H : Type} {enc : TypeId × Value → H} {W : World} {base : Nat} {v : Value} {d : DataW H} {p : List MemPlace} (hv : Value.okWide Try.prog W .any base 73 v)
    (h : DataW.Trod enc Try.prog W 0 (fun _ => true) true 73 v d p) (_ : ∀ n ∈ d.weights Try.prog 73, n ≤ reachBytes) :
    ∃ (x0 x1 : Bool) (x2 x3 x4 x5 : Int), v = .agg #[.bool x0, .bool x1, .int .i64 x2, .int .i64 x3, .int .i64 x4, .int .i64 x5] ∧ True := by
  obtain ⟨cs, rfl, hsz⟩ := okWide_struct Try.underlying73 hv
  have h6 : cs.size = 6 := hsz.trans (by kernel_rfl)
  obtain ⟨l⟩ := cs
  match l, h6 with
  | [v0, v1, v2, v3, v4, v5], _ =>
    obtain ⟨fuel, hf⟩ := h
    obtain ⟨y0, y1, y2, y3, y4, y5, n, t0, t1, t2, t3, t4, t5⟩ := trod_struct6 Try.underlying73 hf
    have k3 : Try.prog.cellsOf 3 = 1 := by kernel_rfl
    have k4 : Try.prog.cellsOf 4 = 1 := by kernel_rfl
    simp only [k3, k4] at t0 t1 t2 t3 t4 t5
    obtain ⟨x0, e0, _⟩ := DataW.trod_bool Try.underlying4 t0
    obtain ⟨x1, e1, _⟩ := DataW.trod_bool Try.underlying4 t1
    obtain ⟨x2, e2, _, _⟩ := DataW.trod_int Try.underlying3 t2
    obtain ⟨x3, e3, _, _⟩ := DataW.trod_int Try.underlying3 t3
    obtain ⟨x4, e4, _, _⟩ := DataW.trod_int Try.underlying3 t4
    obtain ⟨x5, e5, _, _⟩ := DataW.trod_int Try.underlying3 t5
    obtain rfl : v0 = .bool x0 := (List.cons.inj e0).1
    obtain rfl : v1 = .bool x1 := (List.cons.inj e1).1
    obtain rfl : v2 = .int .i64 x2 := (List.cons.inj e2).1
    obtain rfl : v3 = .int .i64 x3 := (List.cons.inj e3).1
    obtain rfl : v4 = .int .i64 x4 := (List.cons.inj e4).1
    obtain rfl : v5 = .int .i64 x5 := (List.cons.inj e5).1
    exact ⟨x0, x1, x2, x3, x4, x5, rfl, trivial⟩
end Go.Proofs.Ytmfnjmecnhagmaa
