/- edit: iterators of origins, by contract; rows of origins. -/
import Derived.Test.YtemlbjpefomboaaNo
namespace Go.Proofs.Ytemlbjpefomboaa
open Go.RowKit Go.Shelf Go.Proofs.YtemlbjpefomboaaW.PrintWords Go.Proofs.YtemlbjpefomboaaW.PrintLast Go.Proofs.YtemlbjpefomboaaW.PrintMore Go.Proofs.Ytemlbjpefomboaa.Pr
set_option linter.unusedVariables false
set_option linter.unusedSimpArgs false
/-- An iterator of origins, by contract: as long as K stays. -/
def IterK (K : World → Prop) (gf : Nat) (lb : Array Value) (L : List S94) : Prop :=
  ∀ (l n1 : Nat) (J : List (Nat × Obj) → Nat → World → Prop) (Jx : World → Prop) (Jp : List PanicEntry → World → Prop),
    (∀ X i W, J X i W → K W ∧ ∀ p ∈ X, W.heap[p.1]? = some p.2) → (∀ X i W o, o.isCells = true → J X i W → J ((W.heap.size, o) :: X) i (W.alloc o)) → (∀ X i W W', J X i W → Bk n1 W W' → J X i W') →
    (∀ W W', Jx W → Bk n1 W W' → Jx W') → (∀ c W W', Jp c W → Bk n1 W W' → Jp c W') →
    (∀ X i W, i < L.length → J X i W → YieldAt (FN EX) 0 Try.prog l #[enc89 (L.getD i z94)] W (RoundGives (J X) Jx Jp i)) → ∀ W, n1 = W.heap.size → J [] 0 W →
    CallsIn (FN EX) 0 Try.prog gf (#[.func (.yield l) #[] #[]] ++ lb) W (IterGives (fun i W => ∃ X, J X i W) Jx Jp L.length)
theorem IterK.of {w : World} {gf : Nat} {lb : Array Value} {L : List S94} (h : IterK (fun W => Below w.heap.size w W) gf lb L) : IterOf w gf lb L :=
  fun l n1 J Jx Jp h1 h2 h3 h4 h5 h6 => h l n1 J Jx Jp h1 h2 h3 h4 h5 (fun X i W hi hJ => yieldAt_mono (h6 X i W hi hJ) (fun e W' h => h.1))
theorem IterK.mono {K K' : World → Prop} {gf : Nat} {lb : Array Value} {L : List S94} (h : IterK K gf lb L) (hk : ∀ W, K' W → K W) : IterK K' gf lb L :=
  fun l n1 J Jx Jp h1 h2 h3 h4 h5 h6 => h l n1 J Jx Jp (fun X i W hJ => ⟨hk W (h1 X i W hJ).1, (h1 X i W hJ).2⟩) h2 h3 h4 h5 h6
theorem iterK_og {Be : Nat} {A0 : Option Addr} {c0 : Nat} {st : List S80} {A1 : Option Addr} {c1 : Nat} {d : List Int} {A2 : Option Addr} {c2 : Nat} {x : List Int} (hm : st.all may = true) (hda : sA st = d.length) (hxc : sC st = x.length) :
    IterK (fun W => EdB W Be A0 c0 st A1 c1 d A2 c2 x) 68 #[.pointer (some ⟨Be, 0, none⟩)] (og st d x 0) := by
  intro l n1 J Jx Jp hJ hG hst _ _ hY W hn h0
  exact org1_in EX ⟨_, Try.func68⟩ l Be n1 A0 c0 st A1 c1 d A2 c2 x J Jx Jp hm hda hxc hJ hG hst hY W h0
def cell94 (o : S94) : List Value := [.bool (!o.f0), .int .i64 o.f1, .int .u8 o.f2]
def cells94 (l : List S94) : List Value := l.flatMap cell94
theorem cells94_snoc (l : List S94) (o : S94) : cells94 (l ++ [o]) = cells94 l ++ cell94 o := by simp [cells94]
theorem eltO : Elt Try.prog 100 89 (.agg #[.bool false, .int .i64 0, .int .u8 0]) 3 24 := ⟨Try.underlying100, by kernel_rfl, rfl, by decide, by decide⟩
theorem cells94_len : ∀ (l : List S94), (cells94 l).length = l.length * 3
  | [] => rfl
  | o :: l => by
    have := cells94_len l
    simp only [cells94, List.flatMap_cons, List.length_append, List.length_cons] at this ⊢
    rw [this]
    simp [cell94]
    omega
theorem cells94_get : ∀ (l : List S94) (k j : Nat), k < l.length → j < 3 → (cells94 l)[k * 3 + j]? = (cell94 (l.getD k z94))[j]?
  | o :: l, 0, j, _, hj => by
    simp only [cells94, List.flatMap_cons]
    rw [List.getElem?_append_left (by simp [cell94]; omega), Nat.zero_mul, Nat.zero_add]
    rfl
  | o :: l, k + 1, j, hk, hj => by
    have := cells94_get l k j (by simpa using hk) hj
    simp only [cells94, List.flatMap_cons] at this ⊢
    rw [List.getElem?_append_right (by simp [cell94]; omega), show (k + 1) * 3 + j - (cell94 o).length = k * 3 + j by simp [cell94]; omega, this]
    rfl
theorem at_O {W : World} {base : Nat} {v : Value} {L : List S94} (h : W.ownsRow base 89 3 v L.length (cells94 L)) {k : Nat} (hk : k < L.length) : ∃ ad c, v = .slice (some ad) L.length c ∧ W.cell? (ad.add (k * 3)) = some (.bool (!(L.getD k z94).f0)) ∧
    W.cell? ⟨(ad.add (k * 3)).block, (ad.add (k * 3)).off + 1, none⟩ = some (.int .i64 (L.getD k z94).f1) ∧ W.cell? ⟨(ad.add (k * 3)).block, (ad.add (k * 3)).off + 2, none⟩ = some (.int .u8 (L.getD k z94).f2) := by
  obtain ⟨g, cap, rfl, _⟩ := World.ownsRow.form h (by omega)
  have hc := fun j (hj : j < 3) => (World.ownsRow.cellAt h (k * 3 + j) (by omega)).trans (cells94_get L k j hk hj)
  refine ⟨_, _, rfl, ?_, ?_, ?_⟩
  · rw [add_plain]; exact hc 0 (by omega)
  · rw [add_plain]; exact hc 1 (by omega)
  · rw [add_plain]; exact hc 2 (by omega)
end Go.Proofs.Ytemlbjpefomboaa
