/- cutter: the same steps; plain's steps. -/
import Derived.Test.YtinlfoblpgpikaaF3
import Derived.Test.YtinlfoblpgpikaaPc
namespace Go.Proofs.Ytinlfoblpgpikaa
open Go.RowKit Go.Shelf Go.Proofs.YtinlfoblpgpikaaW.PrintWords Go.Proofs.YtinlfoblpgpikaaW.PrintLast Go.Proofs.YtinlfoblpgpikaaW.PrintMore Go.Proofs.Ytinlfoblpgpikaa.Pr
set_option linter.unusedVariables false
set_option linter.unusedSimpArgs false
def t81 (s : S82) : S81 := ⟨s.f0, s.f1, s.f2⟩
theorem t81_f81 (L : List S81) : (L.map f81).map t81 = L := by
  rw [List.map_map]
  exact List.map_id'' (fun s => rfl) L
theorem C81_of {W : World} {A : Option Addr} {l : List S82} (h : Kd.C k82 W A l.length l) : Kd.C k81 W A (l.map t81).length (l.map t81) := by
  refine ⟨rfl, by rw [List.length_map]; exact h.2.1, fun hp => ?_⟩
  obtain ⟨ad, e, hc⟩ := h.2.2 (by rw [List.length_map] at hp; exact hp)
  refine ⟨ad, e, fun j p hj => ?_⟩
  rw [List.getElem?_map, Option.map_eq_some_iff] at hj
  obtain ⟨s, hs, rfl⟩ := hj
  obtain ⟨c, h1, hK, hcell⟩ := hc j s hs
  exact ⟨c, h1, by rw [k82_open hK]; exact k81_mk W (t81 s), hcell⟩
theorem OS.C82 {e : TypeId} {W : World} {b c : Nat} {A : Option Addr} {l : List S82} {n : Nat} (h : OS e W b (.slice A n c) l) (hl : l.length = n) : Kd.C k82 W A l.length l := by
  subst hl
  replace h : W.ownsRow b e 3 (.slice A l.length c) l.length (cells82 l) := h
  rcases h.2 with ⟨e1, e2⟩ | ⟨g, cap, cur, e1, _, _, h1, h2, _⟩
  · have : l = [] := List.eq_nil_of_length_eq_zero e2
    subst this
    clear h
    exact ⟨rfl, by simp, fun h => by simp at h⟩
  · cases e1
    have hcs := h.cells (g := g) rfl
    refine ⟨rfl, by simp only [maxLen] at h2; omega, fun _ => ⟨_, rfl, fun j p hj => ⟨[.int .i64 p.f0, .int .i64 p.f1, .int .i64 p.f2], rfl, k82_mk W p, fun i u hu => ?_⟩⟩⟩
    have := cells82_at l j p hj i u hu
    exact hcs _ _ this
theorem OS.C81 {e : TypeId} {W : World} {b c : Nat} {A : Option Addr} {l : List S82} {n : Nat} (h : OS e W b (.slice A n c) l) (hl : l.length = n) : Kd.C k81 W A (l.map t81).length (l.map t81) := C81_of (h.C82 hl)
theorem ss_l0 (L : List S81) (hl : L.length ≤ 9223372036854775806) : ∀ (j i : Nat), i + j = L.length → sapperref17_SameSteps.l0 (j + 1) L L (L.length : Int) (i : Int) = some true
  | 0, i, h => by
    rw [sapperref17_SameSteps.l0, if_neg (by omega)]
  | j + 1, i, h => by
    rw [sapperref17_SameSteps.l0, if_pos (by omega), if_pos (by omega), if_pos (by omega), if_pos (by omega), if_neg (by simp)]
    have e : wrap64 ((i : Int) + 1) = ((i + 1 : Nat) : Int) := by unfold wrap64; omega
    rw [e]
    exact ss_l0 L hl j (i + 1) (by omega)
theorem ss_f (L : List S81) (hl : L.length ≤ 9223372036854775806) : sapperref17_SameSteps.f (L.length + 1) L L = some true := by
  rw [sapperref17_SameSteps.f, if_pos rfl]
  exact ss_l0 L hl L.length 0 (by omega)
theorem sameSteps_c {A : Option Addr} {c : Nat} {B : Option Addr} {d n : Nat} {L : List S81} {w : World} (h0 : Kd.C k81 w A n L) (hc : n ≤ c) (h1 : Kd.C k81 w B n L) (hd : n ≤ d) (hl : n ≤ 9223372036854775806) :
    Calls Try.prog 33 #[.slice A n c, .slice B n d] w fun e w' => e = .returned (.bool true) ∧ Below w.heap.size w w' := by
  obtain rfl : L.length = n := h0.1
  refine (sapperref17_SameSteps.calls _ A c L B d L true w h0 hc h1 hd (ss_f L hl)).mono ?_
  rintro e w' ⟨h1, h2⟩
  exact ⟨h1, Drawn0.below h2⟩
end Go.Proofs.Ytinlfoblpgpikaa
