/- edit: opening a row of edits that came in, up to size. ; edit: a row of lent edits. -/
import Derived.Test.YtemlbjpefomboaaOe
import Derived.Test.YtemlbjpefomboaaLs
import Derived.Test.YtemlbjpefomboaaJp
namespace Go.Proofs.Ytemlbjpefomboaa
open Go.RowKit Go.ChangeShapes Go.WideShapes Go.Proofs.YtemlbjpefomboaaW.PrintWords Go.Proofs.Ytemlbjpefomboaa.Pr
set_option linter.unusedVariables false
set_option maxRecDepth 100000 in
theorem open_editsU {H : Type} {enc : TypeId × Value → H} {W : World} {base : Nat} {v : Value} {d : DataW H} {p : List MemPlace} (hv : Value.okWide Try.prog W .any base 70 v)
    (h : DataW.Trod enc Try.prog W 0 (fun _ => true) true 70 v d p) (_ : ∀ n ∈ d.weights Try.prog 70, n ≤ reachBytes) (hbk : Rows.uptoBulk d ≤ 1048576) :
    ∃ (A : Option Addr) (c : Nat) (L : List S28), v = .slice A L.length c ∧ (Kd.C k28 W A L.length L ∧ L.length ≤ c ∧ L.length ≤ 1048576 ∧ ∀ e ∈ L, e.f0.length ≤ 1048576 ∧ e.f1.length ≤ 1048576 ∧ e.f2.length ≤ 1048576) := by
  obtain ⟨a, len, cap, rfl⟩ := okWide_slice Try.underlying70 hv
  obtain ⟨fuel, hf⟩ := h
  have o := open_rows Try.underlying70 Try.underlying28 (by kernel_rfl) (by kernel_rfl) hf
  obtain ⟨D, rest, hd, hi⟩ := o.at_
  simp only at hd
  have hlen : len ≤ 1048576 := by
    rcases hd with ⟨_, h0⟩ | hd
    · omega
    · have h2 := bulks.slice_le ((List.range len).map D) rest
      rw [← hd, List.length_map, List.length_range] at h2
      omega
  have hD : ∀ i, i < len → Rows.uptoBulk (D i) ≤ 1048576 := by
    intro i hil
    rcases hd with ⟨_, h0⟩ | hd
    · omega
    · have h1 := bulks.part_le (d := D i) (l := (List.range len).map D) (List.mem_map.2 ⟨i, List.mem_range.2 hil, rfl⟩)
      have h2 := bulks.slice_elems ((List.range len).map D) rest
      rw [← hd] at h2
      omega
  obtain ⟨L, hll, hp⟩ := listed_of (α := S28) (n := len) (p := fun i e => ∃ x A0 c0 A1 c1 A2 c2, a = some x ∧ W.cell? (x.add (i * 3 + 0)) = some (.slice A0 e.f0.length c0) ∧ W.cell? (x.add (i * 3 + 1)) = some (.slice A1 e.f1.length c1) ∧ W.cell? (x.add (i * 3 + 2)) = some (.slice A2 e.f2.length c2) ∧
      EdC W A0 c0 e.f0 A1 c1 e.f1 A2 c2 e.f2 ∧ e.f0.length ≤ 1048576 ∧ e.f1.length ≤ 1048576 ∧ e.f2.length ≤ 1048576) (fun i hil => by
    obtain ⟨x, ys, n'', ea, eD, hyl, hf⟩ := hi i hil
    have hy3 : ys.length = 3 := hyl
    obtain ⟨v0, y0, c0, e0, t0⟩ := hf 0 _ rfl
    obtain ⟨v1, y1, c1, e1, t1⟩ := hf 1 _ rfl
    obtain ⟨v2, y2, c2, e2, t2⟩ := hf 2 _ rfl
    obtain ⟨A0, q0, st, rfl, g0, g1, g2, g3⟩ := steps_of_trod t0
    obtain ⟨A1, q1, di, rfl, k1, k2⟩ := bytes_of_trod t1
    obtain ⟨A2, q2, ex, rfl, l1, l2⟩ := bytes_of_trod t2
    have hb := hD i hil
    rw [eD] at hb
    match ys, hy3 with
    | [z0, z1, z2], _ =>
      simp at e0 e1 e2
      subst e0
      subst e1
      subst e2
      simp only [List.map_cons, List.map_nil, Rows.uptoBulk, Rows.uptoBulkAll] at hb
      exact ⟨⟨st, di, ex⟩, x, A0, q0, A1, q1, A2, q2, ea, c0, c1, c2, ⟨g0, k1.r, l1.r, g1, k1.hc, l1.hc⟩, by simp only; omega, by simp only; omega, by simp only; omega⟩)
  subst hll
  have hmx : L.length ≤ 9223372036854775807 := by omega
  refine ⟨a, cap, L, rfl, ⟨rfl, hmx, fun h0 => ?_⟩, o.cap_, hlen, fun e he => ?_⟩
  · have h0' : 0 < L.length := by first | exact h0 | omega
    obtain ⟨x, _, _, _, _, _, _, ea, _⟩ := hp 0 _ (List.getElem?_eq_getElem h0')
    refine ⟨x, ea, fun j s hj => ?_⟩
    obtain ⟨x', A0, c0, A1, c1, A2, c2, ea', x0, x1, x2, hE, _⟩ := hp j s hj
    rw [ea] at ea'
    cases ea'
    refine ⟨_, rfl, k28_mk W s hE.hs hE.s hE.hd hE.di hE.hx hE.ex, fun i u hu => ?_⟩
    match i, hu with
    | 0, hu => simp at hu; subst hu; exact x0
    | 1, hu => simp at hu; subst hu; exact x1
    | 2, hu => simp at hu; subst hu; exact x2
    | i + 3, hu => simp at hu
  · obtain ⟨j, hj, rfl⟩ := List.mem_iff_getElem.1 he
    obtain ⟨_, _, _, _, _, _, _, _, _, _, _, _, h⟩ := hp j _ (List.getElem?_eq_getElem hj)
    exact h
end Go.Proofs.Ytemlbjpefomboaa
namespace Go.Proofs.Ytemlbjpefomboaa
open Go.RowKit Go.Shelf Go.Proofs.YtemlbjpefomboaaW.PrintWords Go.Proofs.YtemlbjpefomboaaW.PrintLast Go.Proofs.YtemlbjpefomboaaW.PrintMore Go.Proofs.Ytemlbjpefomboaa.Pr
set_option linter.unusedVariables false
set_option linter.unusedSimpArgs false
theorem C_blk {α : Type} {d : Kd α} {W W' : World} {A : Option Addr} {n : Nat} {xs : List α} (h : Kd.C d W A n xs) (hk : ∀ a, A = some a → W'.heap[a.block]? = W.heap[a.block]?) (hK2 : ∀ x cs, d.K W x cs → d.K W' x cs) : Kd.C d W' A n xs := by
  obtain ⟨h1, h2, h3⟩ := h
  refine ⟨h1, h2, fun hn => ?_⟩
  obtain ⟨ad, e, h4⟩ := h3 hn
  refine ⟨ad, e, fun q p hp => ?_⟩
  obtain ⟨c, g1, g2, g3⟩ := h4 q p hp
  refine ⟨c, g1, hK2 _ _ g2, fun i u hi => ?_⟩
  rw [← g3 i u hi]
  unfold World.cell?
  have hab : ∀ k, (ad.add k).block = ad.block := fun k => by unfold Addr.add; split <;> rfl
  rw [hab, hk ad e]
/-- What was lent, where its blocks are as they were. -/
theorem Lent.move {W W' : World} {A0 : Option Addr} {c0 : Nat} {st : List S80} {A1 : Option Addr} {c1 : Nat} {d : List Int} {A2 : Option Addr} {c2 : Nat} {x : List Int} {b : Nat} {cs : Array Value} (h : Lent W A0 c0 st A1 c1 d A2 c2 x)
    (hb : W.heap[b]? = some (.cells cs 28 (0, 0))) (hk : ∀ k o, W.heap[k]? = some o → k ≠ b → W'.heap[k]? = W.heap[k]?) : Lent W' A0 c0 st A1 c1 d A2 c2 x := by
  have m0 : ∀ (A : Option Addr) (t : TypeId), Typd W A t → t ≠ 28 → ∀ a, A = some a → W'.heap[a.block]? = W.heap[a.block]? := fun A t ht hne a ha => (ht a ha).elim fun cur hc => hk _ _ hc (ht.ne hb hne a ha)
  have t0 : ∀ (A : Option Addr) (t : TypeId), Typd W A t → t ≠ 28 → Typd W' A t := fun A t ht hne a ha => (ht a ha).elim fun cur hc => ⟨cur, (m0 A t ht hne a ha).trans hc⟩
  refine ⟨C_blk h.s (m0 _ _ h.t0 (by decide)) (fun x cs hx => ?_), C_blk h.di (m0 _ _ h.t1 (by decide)) (fun x cs hx => hx), C_blk h.ex (m0 _ _ h.t2 (by decide)) (fun x cs hx => hx), h.hs, h.hd, h.hx, t0 _ _ h.t0 (by decide), t0 _ _ h.t1 (by decide), t0 _ _ h.t2 (by decide)⟩
  obtain rfl := k80_open hx
  exact k80_mk W' x
/-- Where one lent edit's lists lie. -/
structure Gx where
  A0 : Option Addr
  c0 : Nat
  A1 : Option Addr
  c1 : Nat
  A2 : Option Addr
  c2 : Nat
def Lg (W : World) (e : S28) (x : Gx) : Prop := Lent W x.A0 x.c0 e.f0 x.A1 x.c1 e.f1 x.A2 x.c2 e.f2
def gv (e : S28) (x : Gx) : List Value := [.slice x.A0 e.f0.length x.c0, .slice x.A1 e.f1.length x.c1, .slice x.A2 e.f2.length x.c2]
def gC (L : List S28) (G : Nat → Gx) : Nat → List Value
  | 0 => []
  | i + 1 => gC L G i ++ gv (rd_T28 L i) (G i)
theorem gC_congr {L : List S28} {G G' : Nat → Gx} : ∀ {i : Nat}, (∀ j, j < i → G j = G' j) → gC L G i = gC L G' i
  | 0, _ => rfl
  | i + 1, h => by rw [gC, gC, gC_congr (i := i) (fun j hj => h j (by omega)), h i (by omega)]
theorem gC_len (L : List S28) (G : Nat → Gx) : ∀ i, (gC L G i).length = i * 3
  | 0 => rfl
  | i + 1 => by rw [gC, List.length_append, gC_len L G i]; simp [gv]; omega
theorem gC_get (L : List S28) (G : Nat → Gx) : ∀ (i j q : Nat), j < i → q < 3 → (gC L G i)[j * 3 + q]? = (gv (rd_T28 L j) (G j))[q]?
  | 0, _, _, h, _ => absurd h (by omega)
  | i + 1, j, q, h, hq => by
    rw [gC]
    rcases Nat.lt_or_ge j i with hj | hj
    · rw [List.getElem?_append_left (by rw [gC_len]; omega)]
      exact gC_get L G i j q hj hq
    · obtain rfl : j = i := by omega
      rw [List.getElem?_append_right (by rw [gC_len]; omega), gC_len, Nat.add_sub_cancel_left]
theorem given_cells {W : World} {base c : Nat} {A : Option Addr} {L : List S28} {G : Nat → Gx} {n : Nat} (h : W.ownsRow base 28 3 (.slice A n c) n (gC L G n)) {j : Nat} (hj : j < n) :
    ∃ g, A = some ⟨g, 0, none⟩ ∧ ∀ q u, (gv (rd_T28 L j) (G j))[q]? = some u → W.cell? ⟨g, j * 3 + q, none⟩ = some u := by
  rcases h.2 with ⟨h', _⟩ | ⟨g, cap, cur, h', _⟩
  · simp at h'
    omega
  · simp only [Value.slice.injEq, true_and] at h'
    obtain ⟨rfl, _⟩ := h'
    refine ⟨g, rfl, fun q u hu => ?_⟩
    have hq : q < 3 := by
      rcases Nat.lt_or_ge q 3 with h3 | h3
      · exact h3
      · rw [List.getElem?_eq_none (by simpa [gv] using h3)] at hu; cases hu
    rw [World.ownsRow.cellAt h (j * 3 + q) (by omega), gC_get L G n j q hj hq]
    exact hu
theorem given_C {W : World} {base c : Nat} {A : Option Addr} {L : List S28} {G : Nat → Gx} (h : W.ownsRow base 28 3 (.slice A L.length c) L.length (gC L G L.length)) (hl : L.length ≤ 1048576) (hL : ∀ j, j < L.length → Lg W (rd_T28 L j) (G j)) :
    Kd.C k28 W A L.length L ∧ L.length ≤ c := by
  refine ⟨⟨rfl, by omega, fun h0 => ?_⟩, own_le h⟩
  have h0' : 0 < L.length := by first | exact h0 | omega
  obtain ⟨g, e, _⟩ := given_cells h h0'
  refine ⟨⟨g, 0, none⟩, e, fun j s hj => ?_⟩
  obtain ⟨hj1, hs⟩ := List.getElem?_eq_some_iff.1 hj
  obtain ⟨g', e', hc⟩ := given_cells h hj1
  rw [e] at e'
  cases e'
  have er : rd_T28 L (j : Int) = s := by rw [← hs]; simp [rd_T28, List.getD_eq_getElem?_getD, List.getElem?_eq_getElem hj1]
  have hk := hL j hj1
  rw [er] at hk hc
  have hE := Lent.edc hk
  refine ⟨gv s (G j), rfl, k28_mk W s hE.hs hE.s hE.hd hE.di hE.hx hE.ex, fun i u hu => ?_⟩
  rw [add_plain]
  exact hc i u hu
theorem eltE : Elt Try.prog 70 28 (.agg #[.slice none 0 0, .slice none 0 0, .slice none 0 0]) 3 72 := ⟨Try.underlying70, by kernel_rfl, rfl, by decide, by decide⟩
theorem src28 {W : World} {b : Nat} {e : S28} {x : Gx} (h : W.heap[b]? = some (.cells #[.slice x.A0 e.f0.length x.c0, .slice x.A1 e.f1.length x.c1, .slice x.A2 e.f2.length x.c2] 28 (0, 0))) : Src W (some ⟨b, 0, none⟩) 1 3 (gv e x) := by
  refine ⟨rfl, fun j u hj => ?_, by simp [gv, Value.oneCell']⟩
  have hj3 : j < 3 := by
    rcases Nat.lt_or_ge j 3 with h3 | h3
    · exact h3
    · rw [List.getElem?_eq_none (by simpa [gv] using h3)] at hj; cases hj
  refine ⟨_, rfl, ?_⟩
  match j, hj3, hj with
  | 0, _, hj => rw [add_plain, blk_cell h, ← hj]; rfl
  | 1, _, hj => rw [add_plain, blk_cell h, ← hj]; rfl
  | 2, _, hj => rw [add_plain, blk_cell h, ← hj]; rfl
end Go.Proofs.Ytemlbjpefomboaa
namespace Go.Proofs.Ytemlbjpefomboaa
open Go.RowKit Go.Shelf Go.Proofs.YtemlbjpefomboaaW.PrintWords Go.Proofs.YtemlbjpefomboaaW.PrintLast Go.Proofs.YtemlbjpefomboaaW.PrintMore Go.Proofs.Ytemlbjpefomboaa.Pr
theorem Lg.grown {W W' : World} {e : S28} {x : Gx} {base n c : Nat} {B : Option Addr} {xs : List Value} (h : Lg W e x) (hr : W.ownsRow base 28 3 (.slice B n c) n xs) (hg : W.grownBy W' (Value.ownBlock (.slice B n c))) : Lg W' e x := by
  rcases B with _ | a
  · exact Lent.below h ((Below.refl _ _).grown hg (Nat.le_refl _) (fun k e => by cases e))
  · obtain ⟨cur, hc⟩ := Typd.own hr a rfl
    refine Lent.move h hc (fun k o ho hne => hg.block k (blk_lt ho) (fun e => hne ?_))
    simp [Value.ownBlock] at e
    exact e
end Go.Proofs.Ytemlbjpefomboaa
