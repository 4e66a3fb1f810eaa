/- Opening a slice of structs of one-cell fields that came in: its cells, field by field. ; edit: opening an edit that came in. ; edit: opening a Sized that came in. ; edit: opening bytes that came in, up to size. -/
import Derived.Test.YtemlbjpefomboaaAp
import Derived.Deep.Slices
import Derived.Deep.Fields
import Derived.ChangeSame
import Derived.SizedLaws
import Derived.OpenShut
import Derived.Test.YtemlbjpefomboaaOr
import Derived.Lib.SmallJoins
namespace Go.Proofs.Ytemlbjpefomboaa
open Go.RowKit Go.ChangeShapes Go.WideShapes
set_option linter.unusedVariables false
theorem cell_at {w : World} {base : Nat} {x : Addr} {k m j : Nat} {cs : List Value} (h : w.cells? base (x.add k) m = some cs) (hj : j < m) : ∃ v, w.cell? (x.add (k + j)) = some v ∧ (cs.drop j).take 1 = [v] := by
  obtain ⟨_, hl, hc⟩ := World.cells?_some h
  have hlt : j < cs.length := by omega
  refine ⟨cs[j], ?_, by rw [List.drop_eq_getElem_cons hlt]; rfl⟩
  rw [← Go.Deep.add_add, hc j hj, List.getElem?_eq_getElem hlt]
structure OpenRows {H : Type} (enc : TypeId × Value → H) (P : Program) (W : World) (base : Nat) (sp : Nat → Bool) (held : Bool) (fs : Array Field) (a : Option Addr) (len cap : Nat) (d : DataW H) : Prop where
  cap_ : len ≤ cap
  max : cap ≤ maxLen
  at_ : ∃ (D : Nat → DataW H) (rest : List (DataW H)), ((d = .nil ∧ len = 0) ∨ d = .slice ((List.range len).map D) rest) ∧ ∀ i, i < len → ∃ (x : Addr) (ys : List (DataW H × List MemPlace)) (n : Nat), a = some x ∧ D i = .agg (ys.map (·.1)) ∧ ys.length = fs.size ∧
    ∀ (j : Nat) (f : Field), fs[j]? = some f → ∃ (v : Value) (y : DataW H × List MemPlace), W.cell? (x.add (i * fs.size + j)) = some v ∧ ys[j]? = some y ∧ DataW.trod enc P W base sp held n f.type [v] = some y
theorem open_rows {H : Type} {enc : TypeId × Value → H} {P : Program} {W : World} {base : Nat} {sp : Nat → Bool} {held : Bool} {t e : TypeId} {fs : Array Field} {fuel : Nat} {a : Option Addr} {len cap : Nat} {x : DataW H × List MemPlace}
    (ht : P.underlying t = some (.slice e)) (he : P.underlying e = some (.struct fs)) (hone : Go.Deep.oneCellFields P fs = true) (hC : P.cellsOf e = fs.size) (h : DataW.trod enc P W base sp held fuel t [.slice a len cap] = some x) :
    OpenRows enc P W base sp held fs a len cap x.1 := by
  rcases Go.Deep.open_slice ht h with ⟨hcs, hx⟩ | ⟨x0, l, c, m, n, D, Pl, hcs, _, hl, hm, hmm, hx, hi⟩
  · simp at hcs
    obtain ⟨rfl, rfl, rfl⟩ := hcs
    exact ⟨Nat.le_refl _, Nat.zero_le _, fun _ => .nil, [], .inl ⟨by rw [hx], rfl⟩, fun i h => absurd h (by omega)⟩
  · simp at hcs
    obtain ⟨rfl, rfl, rfl⟩ := hcs
    refine ⟨hl, hm, D, _, .inr (by rw [hx]), fun i hil => ?_⟩
    obtain ⟨cs', hc, ht'⟩ := hi i (by rw [hmm]; split <;> omega)
    rw [hC] at hc
    obtain ⟨ys, n', _, hy, _, hyl, hf⟩ := DataW.trod_struct he ht'
    refine ⟨x0, ys, n', rfl, congrArg Prod.fst hy, hyl, fun j f hj => ?_⟩
    obtain ⟨ho, hk⟩ := Go.Deep.hone_of hone j f hj
    have hjl : j < fs.size := (Array.getElem?_eq_some_iff.1 hj).1
    obtain ⟨v, hv, h1⟩ := cell_at hc hjl
    have h2 := hf j f hj
    rw [ho, hk, h1] at h2
    have hys : ys[j]? = some (ys[j]'(by omega)) := List.getElem?_eq_getElem (by omega)
    exact ⟨v, _, hv, hys, h2.trans hys⟩
end Go.Proofs.Ytemlbjpefomboaa
namespace Go.Proofs.Ytemlbjpefomboaa
open Go.RowKit Go.ChangeShapes Go.WideShapes Go.Proofs.YtemlbjpefomboaaW.PrintWords Go.Proofs.Ytemlbjpefomboaa.Pr
set_option linter.unusedVariables false
theorem listed_of {α : Type} {n : Nat} {p : Nat → α → Prop} (h : ∀ i, i < n → ∃ a, p i a) : ∃ l : List α, l.length = n ∧ ∀ i a, l[i]? = some a → p i a := by
  induction n with
  | zero => exact ⟨[], rfl, fun i a h => by simp at h⟩
  | succ n ih =>
    obtain ⟨l, hl, hp⟩ := ih (fun i hi => h i (by omega))
    obtain ⟨a, ha⟩ := h n (by omega)
    refine ⟨l ++ [a], by simp [hl], fun i b hb => ?_⟩
    rcases Nat.lt_or_ge i l.length with hi | hi
    · rw [List.getElem?_append_left hi] at hb
      exact hp i b hb
    · rw [List.getElem?_append_right hi] at hb
      obtain ⟨h0, h1⟩ := List.getElem?_eq_some_iff.1 hb
      have hi0 : i = n := by simp at h0; omega
      subst hi0
      simp [hl] at h1
      subst h1
      exact ha
/-- Bytes that are read. -/
structure Bys (W : World) (A : Option Addr) (c : Nat) (l : List Int) : Prop where
  r : Kd.C (Kd.int .u8) W A l.length l
  hc : l.length ≤ c
  hr : ∀ x ∈ l, 0 ≤ x ∧ x ≤ 255
theorem bytes_of_trod {H : Type} {enc : TypeId × Value → H} {W : World} {base : Nat} {sp : Nat → Bool} {held : Bool} {n : Nat} {v : Value} {y : DataW H × List MemPlace} (h : DataW.trod enc Try.prog W base sp held n 25 [v] = some y) :
    ∃ (A : Option Addr) (c : Nat) (l : List Int), v = .slice A l.length c ∧ Bys W A c l ∧ l.length ≤ Rows.uptoBulk y.1 := by
  rcases Go.Deep.open_slice1 Try.underlying25 (by kernel_rfl) h with ⟨hcs, rfl⟩ | ⟨a, len, cap, m, n', V, D, Pl, hcs, _, hl, hm, hmm, rfl, hV⟩
  · obtain rfl := (List.cons.inj hcs).1
    exact ⟨none, 0, [], rfl, ⟨⟨rfl, by simp, fun h => by simp at h⟩, by simp, by simp⟩, by simp⟩
  · obtain rfl := (List.cons.inj hcs).1
    obtain ⟨l, hll, hp⟩ := listed_of (α := Int) (n := len) (p := fun i b => W.cell? (a.add i) = some (.int .u8 b) ∧ 0 ≤ b ∧ b ≤ 255) (fun i hi => by
      obtain ⟨h1, h2⟩ := hV i (by rw [hmm]; split <;> omega)
      obtain ⟨b, hb, _, wb⟩ := DataW.trod_int Try.underlying5 h2
      obtain rfl' := (List.cons.inj hb).1
      rw [rfl'] at h1
      exact ⟨b, h1, bounds_u8 wb⟩)
    subst hll
    have hmx : l.length ≤ 9223372036854775807 := by unfold maxLen at hm; omega
    refine ⟨some a, cap, l, rfl, ⟨Kd.C_of_reads (enc := Value.int .u8) (d := (0 : Int)) (h1 := fun _ => rfl) ⟨rfl, hmx, fun _ => ⟨a, rfl, fun j hj => ?_⟩⟩, hl, fun x hx => ?_⟩, ?_⟩
    · have := (hp j _ (List.getElem?_eq_getElem hj)).1
      rw [this]
      simp [List.getD_eq_getElem?_getD, List.getElem?_eq_getElem hj]
    · obtain ⟨j, hj, rfl⟩ := List.mem_iff_getElem.1 hx
      exact (hp j _ (List.getElem?_eq_getElem hj)).2
    · have := bulks.slice_le ((List.range l.length).map D) ((List.range (m - l.length)).map fun j => D (l.length + j))
      simp only [List.length_map, List.length_range] at this
      exact Nat.le_trans (by omega) this
def wfS (s : S80) : Prop := (-9223372036854775808 ≤ s.f0 ∧ s.f0 ≤ 9223372036854775807) ∧ (-9223372036854775808 ≤ s.f1 ∧ s.f1 ≤ 9223372036854775807) ∧ (-9223372036854775808 ≤ s.f2 ∧ s.f2 ≤ 9223372036854775807)
theorem steps_of_trod {H : Type} {enc : TypeId × Value → H} {W : World} {base : Nat} {sp : Nat → Bool} {held : Bool} {n : Nat} {v : Value} {y : DataW H × List MemPlace} (h : DataW.trod enc Try.prog W base sp held n 26 [v] = some y) :
    ∃ (A : Option Addr) (c : Nat) (l : List S80), v = .slice A l.length c ∧ Kd.C k80 W A l.length l ∧ l.length ≤ c ∧ (∀ s ∈ l, wfS s) ∧ l.length ≤ Rows.uptoBulk y.1 := by
  have h0 := h
  rcases Go.Deep.open_slice Try.underlying26 h with ⟨hcs, rfl⟩ | ⟨a, len, cap, m, n', D, Pl, hcs, _, hl, hm, hmm, rfl, _⟩
  · obtain rfl := (List.cons.inj hcs).1
    exact ⟨none, 0, [], rfl, ⟨rfl, by simp, fun h => by simp at h⟩, by simp, by simp, by simp⟩
  · obtain rfl := (List.cons.inj hcs).1
    have o := open_rows Try.underlying26 Try.underlying80 (by kernel_rfl) (by kernel_rfl) h0
    obtain ⟨D', rest, _, hi⟩ := o.at_
    obtain ⟨l, hll, hp⟩ := listed_of (α := S80) (n := len) (p := fun i s => W.cell? (a.add (i * 3 + 0)) = some (.int .i64 s.f0) ∧ W.cell? (a.add (i * 3 + 1)) = some (.int .i64 s.f1) ∧ W.cell? (a.add (i * 3 + 2)) = some (.int .i64 s.f2) ∧ wfS s) (fun i hil => by
      obtain ⟨x, ys, n'', e, _, _, hf⟩ := hi i hil
      cases e
      obtain ⟨v0, y0, c0, _, t0⟩ := hf 0 _ rfl
      obtain ⟨v1, y1, c1, _, t1⟩ := hf 1 _ rfl
      obtain ⟨v2, y2, c2, _, t2⟩ := hf 2 _ rfl
      obtain ⟨b0, hb0, _, w0⟩ := DataW.trod_int Try.underlying3 t0
      obtain ⟨b1, hb1, _, w1⟩ := DataW.trod_int Try.underlying3 t1
      obtain ⟨b2, hb2, _, w2⟩ := DataW.trod_int Try.underlying3 t2
      have e0 := (List.cons.inj hb0).1
      have e1 := (List.cons.inj hb1).1
      have e2 := (List.cons.inj hb2).1
      rw [e0] at c0
      rw [e1] at c1
      rw [e2] at c2
      exact ⟨⟨b0, b1, b2⟩, c0, c1, c2, bounds_i64 w0, bounds_i64 w1, bounds_i64 w2⟩)
    subst hll
    have hmx : l.length ≤ 9223372036854775807 := by unfold maxLen at hm; omega
    refine ⟨some a, cap, l, rfl, ⟨rfl, hmx, fun _ => ⟨a, rfl, fun j s hj => ⟨[.int .i64 s.f0, .int .i64 s.f1, .int .i64 s.f2], rfl, k80_mk W s, fun i u hu => ?_⟩⟩⟩, hl, fun s hs => ?_, ?_⟩
    · obtain ⟨h0, h1, h2, _⟩ := hp j s hj
      match i, hu with
      | 0, hu => simp at hu; subst hu; exact h0
      | 1, hu => simp at hu; subst hu; exact h1
      | 2, hu => simp at hu; subst hu; exact h2
      | i + 3, hu => simp at hu
    · obtain ⟨j, hj, rfl⟩ := List.mem_iff_getElem.1 hs
      exact (hp j _ (List.getElem?_eq_getElem hj)).2.2.2
    · have := bulks.slice_le ((List.range l.length).map D) ((List.range (m - l.length)).map fun j => D (l.length + j))
      simp only [List.length_map, List.length_range] at this
      exact Nat.le_trans (by omega) this
/-- An edit that came in. -/
structure EdI (W : World) (A0 : Option Addr) (c0 : Nat) (st : List S80) (A1 : Option Addr) (c1 : Nat) (d : List Int) (A2 : Option Addr) (c2 : Nat) (x : List Int) : Prop where
  c : EdC W A0 c0 st A1 c1 d A2 c2 x
  ws : ∀ s ∈ st, wfS s
  wd : ∀ b ∈ d, 0 ≤ b ∧ b ≤ 255
  wx : ∀ b ∈ x, 0 ≤ b ∧ b ≤ 255
set_option maxRecDepth 100000 in
theorem open_editU {H : Type} {enc : TypeId × Value → H} {W : World} {base : Nat} {v : Value} {d : DataW H} {p : List MemPlace} (hv : Value.okWide Try.prog W .any base 28 v)
    (h : DataW.Trod enc Try.prog W 0 (fun _ => true) true 28 v d p) (_ : ∀ n ∈ d.weights Try.prog 28, n ≤ reachBytes) (hbk : Rows.uptoBulk d ≤ 1048576) :
    ∃ (A0 : Option Addr) (c0 : Nat) (st : List S80) (A1 : Option Addr) (c1 : Nat) (di : List Int) (A2 : Option Addr) (c2 : Nat) (ex : List Int), v = .agg #[.slice A0 st.length c0, .slice A1 di.length c1, .slice A2 ex.length c2] ∧
      (EdI W A0 c0 st A1 c1 di A2 c2 ex ∧ st.length ≤ 1048576 ∧ di.length ≤ 1048576 ∧ ex.length ≤ 1048576) := by
  obtain ⟨v0, v1, v2, y0, y1, y2, n, rfl, rfl, rfl, t0, t1, t2⟩ := Go.Joins.open_agg3 Try.underlying28 (by kernel_rfl) (by kernel_rfl) hv h
  obtain ⟨A0, c0, st, rfl, h0, h1, h2, h3⟩ := steps_of_trod t0
  obtain ⟨A1, c1, di, rfl, k1, k2⟩ := bytes_of_trod t1
  obtain ⟨A2, c2, ex, rfl, l1, l2⟩ := bytes_of_trod t2
  simp only [Rows.uptoBulk, Rows.uptoBulkAll] at hbk
  exact ⟨A0, c0, st, A1, c1, di, A2, c2, ex, rfl, ⟨⟨h0, k1.r, l1.r, h1, k1.hc, l1.hc⟩, h2, k1.hr, l1.hr⟩, by omega, by omega, by omega⟩
end Go.Proofs.Ytemlbjpefomboaa
namespace Go.Proofs.Ytemlbjpefomboaa
open Go.RowKit Go.ChangeShapes Go.WideShapes Go.Proofs.YtemlbjpefomboaaW.PrintWords Go.Proofs.Ytemlbjpefomboaa.Pr
set_option linter.unusedVariables false
set_option maxRecDepth 100000 in
theorem open_sizedU {H : Type} {enc : TypeId × Value → H} {W : World} {base : Nat} {v : Value} {d : DataW H} {p : List MemPlace} (hv : Value.okWide Try.prog W .any base 38 v)
    (h : DataW.Trod enc Try.prog W 0 (fun _ => true) true 38 v d p) (_ : ∀ n ∈ d.weights Try.prog 38, n ≤ reachBytes) (hbk : Rows.uptoBulk d ≤ 1048576) :
    ∃ (A0 : Option Addr) (c0 : Nat) (st : List S80) (A1 : Option Addr) (c1 : Nat) (di : List Int) (A2 : Option Addr) (c2 : Nat) (ex : List Int) (o s : Int), v = .agg #[.slice A0 st.length c0, .slice A1 di.length c1, .slice A2 ex.length c2, .int .i64 o, .int .i64 s] ∧
      (EdI W A0 c0 st A1 c1 di A2 c2 ex ∧ st.length ≤ 1048576 ∧ di.length ≤ 1048576 ∧ ex.length ≤ 1048576 ∧ (-9223372036854775808 ≤ o ∧ o ≤ 9223372036854775807) ∧ (-9223372036854775808 ≤ s ∧ s ≤ 9223372036854775807)) := by
  obtain ⟨cs, rfl, hsz⟩ := okWide_struct Try.underlying38 hv
  have h5 : cs.size = 5 := hsz.trans (by kernel_rfl)
  obtain ⟨l⟩ := cs
  match l, h5 with
  | [v0, v1, v2, v3, v4], _ =>
    obtain ⟨fuel, hf⟩ := h
    obtain ⟨y0, y1, y2, n, hx, _, t0, t1, t2⟩ := Go.Deep.trod_struct3 Try.underlying38 hf
    have k28 : Try.prog.cellsOf 28 = 3 := by kernel_rfl
    have k3 : Try.prog.cellsOf 3 = 1 := by kernel_rfl
    simp only [k28, k3] at t0 t1 t2
    obtain ⟨z0, z1, z2, n', hz, _, u0, u1, u2⟩ := Go.Deep.trod_struct3 Try.underlying28 t0
    have k26 : Try.prog.cellsOf 26 = 1 := by kernel_rfl
    have k25 : Try.prog.cellsOf 25 = 1 := by kernel_rfl
    simp only [k26, k25] at u0 u1 u2
    obtain ⟨A0, c0, st, rfl, g0, g1, g2, g3⟩ := steps_of_trod (v := v0) u0
    obtain ⟨A1, c1, di, rfl, q1, q2⟩ := bytes_of_trod (v := v1) u1
    obtain ⟨A2, c2, ex, rfl, l1, l2⟩ := bytes_of_trod (v := v2) u2
    obtain ⟨o, ho, _, wo⟩ := DataW.trod_int Try.underlying3 t1
    obtain ⟨s, hs, _, ws⟩ := DataW.trod_int Try.underlying3 t2
    have e3 : v3 = .int .i64 o := (List.cons.inj ho).1
    have e4 : v4 = .int .i64 s := (List.cons.inj hs).1
    subst e3
    subst e4
    obtain ⟨hd, _⟩ := Prod.mk.inj hx
    obtain ⟨hd0, _⟩ := Prod.mk.inj hz
    subst hd
    simp only [Rows.uptoBulk, Rows.uptoBulkAll] at hbk
    rw [hz] at hbk
    simp only [Rows.uptoBulk, Rows.uptoBulkAll] at hbk
    exact ⟨A0, c0, st, A1, c1, di, A2, c2, ex, o, s, rfl, ⟨⟨g0, q1.r, l1.r, g1, q1.hc, l1.hc⟩, g2, q1.hr, l1.hr⟩, by omega, by omega, by omega, bounds_i64 wo, bounds_i64 ws⟩
end Go.Proofs.Ytemlbjpefomboaa
namespace Go.Proofs.Ytemlbjpefomboaa
open Go.RowKit Go.ChangeShapes Go.WideShapes Go.Proofs.YtemlbjpefomboaaW.PrintWords Go.Proofs.Ytemlbjpefomboaa.Pr
set_option linter.unusedVariables false
set_option maxRecDepth 100000 in
theorem open_bytesU {H : Type} {enc : TypeId × Value → H} {W : World} {base : Nat} {v : Value} {d : DataW H} {p : List MemPlace} (hv : Value.okWide Try.prog W .any base 25 v)
    (h : DataW.Trod enc Try.prog W 0 (fun _ => true) true 25 v d p) (_ : ∀ n ∈ d.weights Try.prog 25, n ≤ reachBytes) (hbk : Rows.uptoBulk d ≤ 1048576) :
    ∃ (Ao : Option Addr) (co : Nat) (old : List Int), v = .slice Ao old.length co ∧ (Bys W Ao co old ∧ old.length ≤ 1048576) := by
  obtain ⟨a, len, cap, rfl⟩ := okWide_slice Try.underlying25 hv
  obtain ⟨fuel, hf⟩ := h
  obtain ⟨A, c, l, e, hB, hl⟩ := bytes_of_trod (v := .slice a len cap) hf
  exact ⟨A, c, l, e, hB, Nat.le_trans hl hbk⟩
set_option maxRecDepth 100000 in
theorem open_makingU {H : Type} {enc : TypeId × Value → H} {W : World} {base : Nat} {v : Value} {d : DataW H} {p : List MemPlace} (hv : Value.okWide Try.prog W .any base 55 v)
    (h : DataW.Trod enc Try.prog W 0 (fun _ => true) true 55 v d p) (_ : ∀ n ∈ d.weights Try.prog 55, n ≤ reachBytes) (hbk : Rows.uptoBulk d ≤ 1048576) :
    ∃ (A0 : Option Addr) (c0 : Nat) (st : List S80) (A1 : Option Addr) (c1 : Nat) (di : List Int) (A2 : Option Addr) (c2 : Nat) (ex : List Int), v = .agg #[.slice A1 di.length c1, .slice A2 ex.length c2, .slice A0 st.length c0] ∧
      (EdI W A0 c0 st A1 c1 di A2 c2 ex ∧ st.length ≤ 1048576 ∧ di.length ≤ 1048576 ∧ ex.length ≤ 1048576) := by
  obtain ⟨v1, v2, v0, y1, y2, y0, n, rfl, rfl, rfl, t1, t2, t0⟩ := Go.Joins.open_agg3 Try.underlying55 (by kernel_rfl) (by kernel_rfl) hv h
  obtain ⟨A0, c0, st, rfl, h0, h1, h2, h3⟩ := steps_of_trod t0
  obtain ⟨A1, c1, di, rfl, k1, k2⟩ := bytes_of_trod t1
  obtain ⟨A2, c2, ex, rfl, l1, l2⟩ := bytes_of_trod t2
  simp only [Rows.uptoBulk, Rows.uptoBulkAll] at hbk
  exact ⟨A0, c0, st, A1, c1, di, A2, c2, ex, rfl, ⟨⟨h0, k1.r, l1.r, h1, k1.hc, l1.hc⟩, h2, k1.hr, l1.hr⟩, by omega, by omega, by omega⟩
end Go.Proofs.Ytemlbjpefomboaa
