/- Opening a slice of slices of bytes that came in: what it reads as, how long it and its parts may be. -/
import Derived.Test.YtelmkcbakeccoaaSm
import Derived.Deep.Slices
import Derived.SizedLaws
import Derived.ChangeSlices
namespace Go.Proofs.Ytelmkcbakeccoaa
open Go.RowKit Go.ChangeShapes Go.WideShapes Go.Proofs.YtelmkcbakeccoaaW.PrintWords
set_option linter.unusedVariables false
theorem list_of {α : Type} (d : α) : ∀ (n : Nat) (p : Nat → α → Prop), (∀ i, i < n → ∃ x, p i x) → ∃ l : List α, l.length = n ∧ ∀ i, i < n → p i (l.getD i d)
  | 0, p, _ => ⟨[], rfl, fun i h => by omega⟩
  | n + 1, p, h => by
    obtain ⟨l, hl, hp⟩ := list_of d n p (fun i hi => h i (by omega))
    obtain ⟨x, hx⟩ := h n (by omega)
    refine ⟨l ++ [x], by simp [hl], fun i hi => ?_⟩
    rcases Nat.lt_or_ge i n with h1 | h1
    · rw [List.getD_eq_getElem?_getD, List.getElem?_append_left (by omega), ← List.getD_eq_getElem?_getD]
      exact hp i h1
    · obtain rfl : i = n := by omega
      rw [List.getD_eq_getElem?_getD, List.getElem?_append_right (by omega), hl, Nat.sub_self]
      exact hx
theorem weightsAll_mem {H : Type} {P : Program} {e : TypeId} : ∀ {ds : List (DataW H)} {d : DataW H}, d ∈ ds → ∀ n ∈ d.weights P e, n ∈ DataW.weightsAll P e ds
  | d0 :: ds, d, h, n, hn => by
    simp only [DataW.weightsAll, List.mem_append]
    rcases List.mem_cons.1 h with rfl | h
    · exact Or.inl hn
    · exact Or.inr (weightsAll_mem h n hn)
theorem open_parts {H : Type} {enc : TypeId × Value → H} {P : Program} {W : World} {base : Nat} {held : Bool} {t e b : TypeId} {a : Option Addr} {len cap : Nat} {d : DataW H} {ps : List MemPlace} {ts : List TypeId} {ds : List (DataW H)} {j : Nat}
    (hsz : (DataW.weightsEach P ts ds).all (· ≤ reachBytes) = true) (ht : ts[j]? = some t) (hd : ds[j]? = some d) (hu : P.underlying t = some (.slice e)) (he : P.underlying e = some (.slice b)) (hb : P.underlying b = some (.int .u8))
    (hce : P.cellsOf e = 1) (hcb : P.cellsOf b = 1) (hBe : P.bytesOf e = 24) (hBb : P.bytesOf b = 1)
    (h : DataW.Trod enc P W base (fun _ => true) held t (.slice a len cap) d ps) : ∃ l, Ps W a len l ∧ len ≤ cap ∧ len * 24 ≤ 140737488351232 ∧ ∀ x ∈ l, x.length ≤ 140737488351232 := by
  obtain ⟨fuel, hf⟩ := h
  rcases Go.Deep.open_slice1 hu hce hf with ⟨hcs, _⟩ | ⟨x, l, c, m, n, V, D, Pl, hcs, _, hl, hm, hmm, hx, hV⟩
  · simp [Value.cells] at hcs
    obtain ⟨rfl, rfl, rfl⟩ := hcs
    exact ⟨[], Ps.none, by omega, by omega, by simp⟩
  · simp [Value.cells] at hcs
    obtain ⟨rfl, rfl, rfl⟩ := hcs
    obtain ⟨hx, _⟩ := Prod.mk.inj hx
    subst hx
    have hlm : len ≤ m := by rw [hmm]; split <;> omega
    have z := sized_slice hsz ht hd hu
    rw [hBe] at z
    simp only [List.length_map, List.length_range] at z
    have hW : ∀ k ∈ (DataW.slice ((List.range len).map D) ((List.range (m - len)).map fun j => D (len + j))).weights P t, k ≤ reachBytes := fun k hk => by
      have := List.all_eq_true.1 hsz _ (DataW.weights_mem_each ht hd k hk)
      simpa using this
    have key : ∀ i, i < len → ∃ xs : List Int, xs.length ≤ 140737488351232 ∧ ∃ B q r, W.cell? (x.add i) = some (.slice B q r) ∧ Bs W B q r xs := by
      intro i hi
      obtain ⟨h1, h2⟩ := hV i (by omega)
      rcases open_ints he hb hcb h2 with ⟨hcs, _⟩ | ⟨x', l', c', zs, hcs, _, hl', hm', hz', hx', hcell, hwz⟩
      · have hv : V i = .slice none 0 0 := (List.cons.inj hcs).1
        obtain ⟨xs, hB⟩ := IsRow.bytes (w := W) (a := none) (len := 0) (cap := 0) (zs := []) (.inl ⟨rfl, rfl, rfl, rfl⟩)
        exact ⟨xs, by rw [hB.len]; omega, none, 0, 0, by rw [h1, hv], hB⟩
      · have hv : V i = .slice (some x') l' c' := (List.cons.inj hcs).1
        obtain ⟨xs, hB⟩ := IsRow.bytes (w := W) (a := some x') (len := l') (cap := c') (zs := zs) (.inr ⟨x', rfl, hl', hm', by simpa using hz', hcell, hwz⟩)
        refine ⟨xs, ?_, some x', l', c', by rw [h1, hv], hB⟩
        have hD : D i = .slice (lits .u8 (zs.take l')) (lits .u8 (zs.drop l')) := (Prod.mk.inj hx').1
        have hm1 : ((lits (H := H) .u8 (zs.take l')).length + (lits (H := H) .u8 (zs.drop l')).length) * P.bytesOf b ∈ (D i).weights P e := by
          rw [hD]; simp [DataW.weights, he]
        have hm2 : D i ∈ (List.range len).map D := List.mem_map.2 ⟨i, List.mem_range.2 hi, rfl⟩
        have hm3 := weightsAll_mem (P := P) (e := e) hm2 _ hm1
        have hm4 := hW _ (by simp only [DataW.weights, hu, List.mem_cons, List.mem_append]; exact Or.inr (Or.inl hm3))
        rw [hBb] at hm4
        have hll : l' ≤ zs.length := by simp at hz'; omega
        simp only [lits, List.length_map, List.length_take, List.length_drop, reachBytes] at hm4
        rw [hB.len]
        omega
    obtain ⟨l, hl0, hl1⟩ := list_of (α := List Int) [] len _ key
    refine ⟨l, ⟨hl0, ?_, ?_⟩, hl, ?_, ?_⟩
    · simp only [reachBytes] at z; omega
    · intro i hi
      obtain ⟨_, B, q, r, h1, h2⟩ := hl1 i hi
      exact ⟨x, B, q, r, rfl, h1, h2⟩
    · simp only [reachBytes] at z; omega
    · intro xs hx
      obtain ⟨i, hi, rfl⟩ := List.getElem_of_mem hx
      have := (hl1 i (by omega)).1
      simpa [List.getD_eq_getElem?_getD, hi] using this
end Go.Proofs.Ytelmkcbakeccoaa
