/- num: opening bytes that came in, of small bulk; the walks over what was opened. -/
import Derived.Test.YtpjfepeedfbpfaaNl
import Derived.Test.YtpjfepeedfbpfaaOs
namespace Go.Proofs.Ytpjfepeedfbpfaa
open Go.RowKit Go.ChangeShapes Go.WideShapes Go.Proofs.YtpjfepeedfbpfaaW.PrintWords
theorem open_few {H : Type} {enc : TypeId × Value → H} {W : World} {base : Nat} {v : Value} {d : DataW H} {p : List MemPlace} (hv : Value.okWide Try.prog W .any base 26 v)
    (h : DataW.Trod enc Try.prog W 0 (fun _ => true) true 26 v d p) (_ : ∀ n ∈ d.weights Try.prog 26, n ≤ reachBytes) (hbk : Rows.uptoBulk d ≤ 1048576) :
    ∃ (a : Option Addr) (len cap : Nat), v = .slice a len cap ∧ ((∃ xs, Bs W a len cap xs) ∧ len ≤ 1048576) := by
  obtain ⟨a, len, cap, rfl⟩ := okWide_slice Try.underlying26 hv
  refine ⟨a, len, cap, rfl, ?_⟩
  obtain ⟨fuel, hf⟩ := h
  rcases open_ints Try.underlying26 Try.underlying5 (by kernel_rfl) hf with ⟨hcs, _⟩ | ⟨x', l', c', zs, hcs, _, hl', hm', hz', hx', hcell, hwz⟩
  · simp [Value.cells] at hcs
    obtain ⟨rfl, rfl, rfl⟩ := hcs
    exact ⟨IsRow.bytes (w := W) (a := none) (len := 0) (cap := 0) (zs := []) (.inl ⟨rfl, rfl, rfl, rfl⟩), by omega⟩
  · simp [Value.cells] at hcs
    obtain ⟨rfl, rfl, rfl⟩ := hcs
    refine ⟨IsRow.bytes (w := W) (a := some x') (len := len) (cap := cap) (zs := zs) (.inr ⟨x', rfl, hl', hm', by simpa using hz', hcell, hwz⟩), ?_⟩
    obtain ⟨hd, _⟩ := Prod.mk.inj hx'
    subst hd
    have hs := bulks.slice_le (lits (H := H) .u8 (zs.take len)) (lits (H := H) .u8 (zs.drop len))
    have hll : len ≤ zs.length := by simp at hz'; omega
    simp only [lits, List.length_map, List.length_take, List.length_drop] at hs hbk
    omega
theorem walk_numTells (A : Option Addr) (n c : Nat) (lv : Int) (w : World) (f0 : (∃ xs, Bs w A n c xs) ∧ n ≤ 1048576) (w1 : (Lit.int .i64 lv).wf = true) :
    Calls Try.prog 6 #[.slice A n c, .int .i64 lv] w fun e w' => e = .returned (.bool true) ∧ Below w.heap.size w w' := by
  obtain ⟨⟨xs, hB⟩, hn⟩ := f0
  obtain ⟨l0, l1⟩ := bounds_i64 w1
  exact tells_calls A n c xs lv w hB hn l0 l1
end Go.Proofs.Ytpjfepeedfbpfaa
