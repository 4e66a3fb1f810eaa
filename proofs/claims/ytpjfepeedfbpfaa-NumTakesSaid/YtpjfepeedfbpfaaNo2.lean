/- num: opening a script. -/
import Derived.Test.YtpjfepeedfbpfaaNt
import Derived.Test.YtpjfepeedfbpfaaOs
namespace Go.Proofs.Ytpjfepeedfbpfaa
open Go.RowKit Go.ChangeShapes Go.WideShapes Go.Proofs.YtpjfepeedfbpfaaW.PrintWords
theorem open_script {H : Type} {enc : TypeId × Value → H} {W : World} {base : Nat} {v : Value} {d : DataW H} {p : List MemPlace} (hv : Value.okWide Try.prog W .any base 41 v)
    (h : DataW.Trod enc Try.prog W 0 (fun _ => true) true 41 v d p) (_ : ∀ n ∈ d.weights Try.prog 41, n ≤ reachBytes) :
    ∃ (a : Option Addr) (len cap : Nat), v = .slice a len cap ∧ (Scr W a len ∧ len ≤ cap) := by
  obtain ⟨a, len, cap, rfl⟩ := okWide_slice Try.underlying41 hv
  refine ⟨a, len, cap, rfl, ?_⟩
  obtain ⟨fuel, hf⟩ := h
  have o := open_rows Try.underlying41 Try.underlying47 (by kernel_rfl) (by kernel_rfl) hf
  have hm := o.max
  have hc := o.cap_
  obtain ⟨D, rest, _, hi⟩ := o.at_
  unfold maxLen at hm
  refine ⟨⟨by omega, fun j hj => ?_⟩, hc⟩
  obtain ⟨x, ys, n, e, _, _, hf⟩ := hi j hj
  obtain ⟨v0, y0, c0, _, t0⟩ := hf 0 _ rfl
  obtain ⟨v1, y1, c1, _, t1⟩ := hf 1 _ rfl
  obtain ⟨b, hb, _, wb⟩ := DataW.trod_int Try.underlying5 t0
  obtain ⟨r, hr, _⟩ := DataW.trod_bool Try.underlying4 t1
  obtain rfl := (List.cons.inj hb).1
  obtain rfl := (List.cons.inj hr).1
  obtain ⟨b0, b1⟩ := bounds_u8 wb
  exact ⟨x, b, r, e, c0, c1, b0, b1⟩
end Go.Proofs.Ytpjfepeedfbpfaa
