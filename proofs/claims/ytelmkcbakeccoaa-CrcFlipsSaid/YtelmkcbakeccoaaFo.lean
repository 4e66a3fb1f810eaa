/- crc: opening three words. -/
import Derived.Test.YtelmkcbakeccoaaFz
import Derived.Laws.IdiomArrays
import Derived.SizedLaws
import Derived.OpenShut
namespace Go.Proofs.Ytelmkcbakeccoaa
open Go.RowKit Go.ChangeShapes Go.WideShapes
theorem open_u3 {H : Type} {enc : TypeId × Value → H} {W : World} {base : Nat} {v : Value} {d : DataW H} {p : List MemPlace} (hv : Value.okWide Try.prog W .any base 37 v)
    (h : DataW.Trod enc Try.prog W 0 (fun _ => true) true 37 v d p) (_ : ∀ n ∈ d.weights Try.prog 37, n ≤ reachBytes) :
    ∃ a b c : Int, v = .agg #[.int .u64 a, .int .u64 b, .int .u64 c] ∧ ((Lit.int .u64 a).wf = true ∧ (Lit.int .u64 b).wf = true ∧ (Lit.int .u64 c).wf = true) := by
  simp only [Value.okWide, Try.underlying37] at hv
  obtain ⟨cs, rfl, h2, _⟩ := hv
  have h3 : cs.size = 3 := h2.trans (by kernel_rfl)
  obtain ⟨l⟩ := cs
  match l, h3 with
  | [c0, c1, c2], _ =>
    obtain ⟨fuel, hf⟩ := h
    obtain ⟨y0, y1, y2, n, _, e0, e1, e2⟩ := trod_array3 Try.underlying37 (by kernel_rfl) hf
    obtain ⟨a, ha, _, wa⟩ := DataW.trod_int Try.underlying36 e0
    obtain ⟨b, hb, _, wb⟩ := DataW.trod_int Try.underlying36 e1
    obtain ⟨c, hc, _, wc⟩ := DataW.trod_int Try.underlying36 e2
    obtain rfl := (List.cons.inj ha).1
    obtain rfl := (List.cons.inj hb).1
    obtain rfl := (List.cons.inj hc).1
    exact ⟨a, b, c, rfl, wa, wb, wc⟩
end Go.Proofs.Ytelmkcbakeccoaa
