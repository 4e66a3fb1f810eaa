/- cutter: opening a slice of windows that came in. -/
import Derived.Test.YtinlfoblpgpikaaOc
namespace Go.Proofs.Ytinlfoblpgpikaa
open Go.RowKit Go.ChangeShapes Go.WideShapes Go.Proofs.YtinlfoblpgpikaaW.PrintWords Go.Proofs.Ytinlfoblpgpikaa.Pr
set_option linter.unusedVariables false
set_option linter.unusedSimpArgs false
/-- Windows that came in. -/
structure WinsU (W : World) (A : Option Addr) (c : Nat) (L : List S45) : Prop where
  C : Kd.C k45 W A L.length L
  hc : L.length ≤ c
  hl : L.length ≤ 1048576
  he : ∀ e ∈ L, e.f1.f0.length ≤ 1048576 ∧ e.f1.f1.length ≤ 1048576 ∧ e.f1.f2.length ≤ 1048576 ∧ ∀ s ∈ e.f1.f0, wfS s
set_option maxRecDepth 100000 in
theorem open_windowsU {H : Type} {enc : TypeId × Value → H} {W : World} {base : Nat} {v : Value} {d : DataW H} {p : List MemPlace} (hv : Value.okWide Try.prog W .any base 35 v)
    (h : DataW.Trod enc Try.prog W 0 (fun _ => true) true 35 v d p) (_ : ∀ n ∈ d.weights Try.prog 35, n ≤ reachBytes) (hbk : Rows.uptoBulk d ≤ 1048576) :
    ∃ (A : Option Addr) (c : Nat) (L : List S45), v = .slice A L.length c ∧ WinsU W A c L := by
  obtain ⟨a, len, cap, rfl⟩ := okWide_slice Try.underlying35 hv
  obtain ⟨fuel, hf⟩ := h
  rcases Go.Deep.open_slice Try.underlying35 hf with ⟨hcs, hx⟩ | ⟨x0, l, c, m, n, D, Pl, hcs, _, hl, hm, hmm, hx, hi⟩
  · simp [Value.cells] at hcs
    obtain ⟨rfl, rfl, rfl⟩ := hcs
    exact ⟨none, 0, [], rfl, ⟨⟨rfl, by simp, fun h => by simp at h⟩, by simp, by simp, by simp⟩⟩
  · simp [Value.cells] at hcs
    obtain ⟨rfl, rfl, rfl⟩ := hcs
    obtain ⟨rfl, _⟩ := Prod.mk.inj hx
    have hlen : len ≤ 1048576 := by
      have h2 := bulks.slice_le ((List.range len).map D) ((List.range (m - len)).map fun j => D (len + j))
      rw [List.length_map, List.length_range] at h2
      omega
    have hD : ∀ i, i < len → Rows.uptoBulk (D i) ≤ 1048576 := by
      intro i hil
      have h1 := bulks.part_le (d := D i) (l := (List.range len).map D) (List.mem_map.2 ⟨i, List.mem_range.2 hil, rfl⟩)
      have h2 := bulks.slice_elems ((List.range len).map D) ((List.range (m - len)).map fun j => D (len + j))
      omega
    obtain ⟨L, hll, hp⟩ := listed_of (α := S45) (n := len) (p := fun i e => ∃ A0 c0 A1 c1 A2 c2, W.cell? (x0.add (i * 4 + 0)) = some (.int .i64 e.f0) ∧ W.cell? (x0.add (i * 4 + 1)) = some (.slice A0 e.f1.f0.length c0) ∧ W.cell? (x0.add (i * 4 + 2)) = some (.slice A1 e.f1.f1.length c1) ∧ W.cell? (x0.add (i * 4 + 3)) = some (.slice A2 e.f1.f2.length c2) ∧
        (Kd.C k81 W A0 e.f1.f0.length e.f1.f0 ∧ (Kd.int .u8).C W A1 e.f1.f1.length e.f1.f1 ∧ (Kd.int .u8).C W A2 e.f1.f2.length e.f1.f2 ∧ e.f1.f0.length ≤ c0 ∧ e.f1.f1.length ≤ c1 ∧ e.f1.f2.length ≤ c2) ∧ e.f1.f0.length ≤ 1048576 ∧ e.f1.f1.length ≤ 1048576 ∧ e.f1.f2.length ≤ 1048576 ∧ ∀ s ∈ e.f1.f0, wfS s) (fun i hil => by
      obtain ⟨cs', hc, ht'⟩ := hi i (by rw [hmm]; split <;> omega)
      have k45 : Try.prog.cellsOf 45 = 4 := by kernel_rfl
      rw [k45] at hc
      obtain ⟨v0, hv0, e0⟩ := cell_at hc (show 0 < 4 by omega)
      obtain ⟨v1, hv1, e1⟩ := cell_at hc (show 1 < 4 by omega)
      obtain ⟨v2, hv2, e2⟩ := cell_at hc (show 2 < 4 by omega)
      obtain ⟨v3, hv3, e3⟩ := cell_at hc (show 3 < 4 by omega)
      have hcl : cs'.length = 4 := (World.cells?_some hc).2.1
      match cs', hcl with
      | [u0, u1, u2, u3], _ =>
        simp at e0 e1 e2 e3
        subst e0 e1 e2 e3
        obtain ⟨z0, z1, n', hxx, _, t0, t1⟩ := trod_struct2 Try.underlying45 ht'
        have k3 : Try.prog.cellsOf 3 = 1 := by kernel_rfl
        have k26 : Try.prog.cellsOf 26 = 3 := by kernel_rfl
        simp only [k3, k26] at t0 t1
        obtain ⟨y0, y1, y2, n'', hz, _, w0, w1, w2⟩ := Go.Deep.trod_struct3 Try.underlying26 t1
        have k23 : Try.prog.cellsOf 23 = 1 := by kernel_rfl
        have k24 : Try.prog.cellsOf 24 = 1 := by kernel_rfl
        simp only [k23, k24] at w0 w1 w2
        obtain ⟨pos, hp, _, wp⟩ := DataW.trod_int Try.underlying3 t0
        have e0 : u0 = .int .i64 pos := (List.cons.inj hp).1
        subst e0
        obtain ⟨A0, c0, st, rfl, g0, g1, g2, g3⟩ := steps_of_trod (v := u1) w0
        obtain ⟨A1, c1, di, rfl, q1, q2⟩ := bytes_of_trod (v := u2) w1
        obtain ⟨A2, c2, ex, rfl, l1, l2⟩ := bytes_of_trod (v := u3) w2
        have hb := hD i hil
        rw [(Prod.mk.inj hxx).1, hz] at hb
        simp only [Rows.uptoBulk, Rows.uptoBulkAll] at hb
        exact ⟨⟨pos, ⟨st, di, ex⟩⟩, A0, c0, A1, c1, A2, c2, hv0, hv1, hv2, hv3, ⟨g0, q1.r, l1.r, g1, q1.hc, l1.hc⟩, by simp only; omega, by simp only; omega, by simp only; omega, g2⟩)
    subst hll
    have hmx : L.length ≤ 9223372036854775807 := by omega
    refine ⟨some x0, cap, L, rfl, ⟨⟨rfl, hmx, fun _ => ⟨x0, rfl, fun j s hj => ?_⟩⟩, hl, hlen, fun e he => ?_⟩⟩
    · obtain ⟨A0, c0, A1, c1, A2, c2, h0, h1, h2, h3, ⟨i0, i1, i2, i3, i4, i5⟩, _⟩ := hp j s hj
      refine ⟨_, rfl, k45_mk W s i3 i0 i4 i1 i5 i2, fun i u hu => ?_⟩
      match i, hu with
      | 0, hu => simp at hu; subst hu; exact h0
      | 1, hu => simp at hu; subst hu; exact h1
      | 2, hu => simp at hu; subst hu; exact h2
      | 3, hu => simp at hu; subst hu; exact h3
      | i + 4, hu => simp at hu
    · obtain ⟨j, hj, rfl⟩ := List.mem_iff_getElem.1 he
      obtain ⟨_, _, _, _, _, _, _, _, _, _, _, h⟩ := hp j _ (List.getElem?_eq_getElem hj)
      exact h
end Go.Proofs.Ytinlfoblpgpikaa
