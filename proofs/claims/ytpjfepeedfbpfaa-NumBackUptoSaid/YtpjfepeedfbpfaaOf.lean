/- num: opening few bytes, few numbers that came in. -/
import Derived.Test.YtpjfepeedfbpfaaRw
import Derived.Test.YtpjfepeedfbpfaaOs
namespace Go.Proofs.Ytpjfepeedfbpfaa
open Go.RowKit Go.ChangeShapes Go.WideShapes Go.Proofs.YtpjfepeedfbpfaaW.PrintWords
theorem open_row {H : Type} {enc : TypeId × Value → H} {W : World} {base : Nat} {v : Value} {d : DataW H} {p : List MemPlace} {t e : TypeId} {k : IntKind} (ht : Try.prog.underlying t = some (.slice e)) (he : Try.prog.underlying e = some (.int k)) (hC : Try.prog.cellsOf e = 1)
    (hv : Value.okWide Try.prog W .any base t v) (h : DataW.Trod enc Try.prog W 0 (fun _ => true) true t v d p) (hbk : Rows.uptoBulk d ≤ 1048576) :
    ∃ (a : Option Addr) (len cap : Nat) (zs : List Int), v = .slice a len cap ∧ IsRow k W a len cap zs ∧ len ≤ 1048576 := by
  obtain ⟨a, len, cap, rfl⟩ := okWide_slice ht hv
  obtain ⟨fuel, hf⟩ := h
  rcases open_ints ht he hC hf with ⟨hcs, _⟩ | ⟨x', l', c', zs, hcs, _, hl', hm', hz', hx', hcell, hwz⟩
  · simp [Value.cells] at hcs
    obtain ⟨rfl, rfl, rfl⟩ := hcs
    exact ⟨none, 0, 0, [], rfl, .inl ⟨rfl, rfl, rfl, rfl⟩, by omega⟩
  · simp [Value.cells] at hcs
    obtain ⟨rfl, rfl, rfl⟩ := hcs
    refine ⟨some x', len, cap, zs, rfl, .inr ⟨x', rfl, hl', hm', by simpa using hz', hcell, hwz⟩, ?_⟩
    obtain ⟨hd, _⟩ := Prod.mk.inj hx'
    subst hd
    have hs := bulks.slice_le (lits (H := H) k (zs.take len)) (lits (H := H) k (zs.drop len))
    have hll : len ≤ zs.length := by simp at hz'; omega
    simp only [lits, List.length_map, List.length_take, List.length_drop] at hs hbk
    omega
theorem open_fewB {H : Type} {enc : TypeId × Value → H} {W : World} {base : Nat} {v : Value} {d : DataW H} {p : List MemPlace} (hv : Value.okWide Try.prog W .any base 26 v)
    (h : DataW.Trod enc Try.prog W 0 (fun _ => true) true 26 v d p) (_ : ∀ n ∈ d.weights Try.prog 26, n ≤ reachBytes) (hbk : Rows.uptoBulk d ≤ 1048576) :
    ∃ (a : Option Addr) (len cap : Nat), v = .slice a len cap ∧ ((∃ xs, Bs W a len cap xs) ∧ len ≤ 1048576) := by
  obtain ⟨a, len, cap, zs, e, h1, h2⟩ := open_row Try.underlying26 Try.underlying5 (by kernel_rfl) hv h hbk
  exact ⟨a, len, cap, e, h1.bytes, h2⟩
theorem open_fewU {H : Type} {enc : TypeId × Value → H} {W : World} {base : Nat} {v : Value} {d : DataW H} {p : List MemPlace} (hv : Value.okWide Try.prog W .any base 71 v)
    (h : DataW.Trod enc Try.prog W 0 (fun _ => true) true 71 v d p) (_ : ∀ n ∈ d.weights Try.prog 71, n ≤ reachBytes) (hbk : Rows.uptoBulk d ≤ 1048576) :
    ∃ (a : Option Addr) (len cap : Nat), v = .slice a len cap ∧ ((∃ xs, U64s W a len cap xs) ∧ len ≤ 1048576) := by
  obtain ⟨a, len, cap, zs, e, h1, h2⟩ := open_row Try.underlying71 Try.underlying22 (by kernel_rfl) hv h hbk
  exact ⟨a, len, cap, e, h1.u64 (by omega), h2⟩
end Go.Proofs.Ytpjfepeedfbpfaa
